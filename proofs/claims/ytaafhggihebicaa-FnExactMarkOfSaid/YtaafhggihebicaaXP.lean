/- Plain lemmas of this session on loops that run over lists; no Go and no memory in them. No condition. -/
import Derived.Test.YtaafhggihebicaaWMore
namespace Go.Proofs.Ytaafhggihebicaa.XP
open Go.RowKit Go.Proofs.YtaafhggihebicaaW.PrintWords Go.Proofs.YtaafhggihebicaaW.PrintLast
set_option linter.unusedVariables false

theorem w64 {x : Int} (h0 : -9223372036854775808 ≤ x) (h1 : x ≤ 9223372036854775807) : wrap64 x = x := by unfold wrap64; omega
theorem wsucc {x : Int} (h0 : 0 ≤ x) (h1 : x ≤ 4611686018427387904) : wrap64 (x + 1) = x + 1 := w64 (by omega) (by omega)
theorem wpred {x : Int} (h0 : 0 ≤ x) (h1 : x ≤ 4611686018427387904) : wrap64 (x - 1) = x - 1 := w64 (by omega) (by omega)
/-- From some number of rounds on. -/
def From {α : Type} (g : Nat → Option α) (r : α) : Prop := ∃ K, ∀ k, K ≤ k → g k = some r
theorem from_now {α : Type} {g : Nat → Option α} {r : α} (h : ∀ k, g k = some r) : From g r := ⟨0, fun k _ => h k⟩
theorem From.two {α β : Type} {g : Nat → Option α} {f : Nat → Option β} {r : α} {s : β} (h : From g r) (h' : From f s) : ∃ K, ∀ k, K ≤ k → g k = some r ∧ f k = some s := by
  obtain ⟨K, hK⟩ := h
  obtain ⟨L, hL⟩ := h'
  exact ⟨max K L, fun k hk => ⟨hK k (by omega), hL k (by omega)⟩⟩
theorem get_getD {α : Type} (l : List α) (d : α) (i : Int) (h0 : 0 ≤ i) (h1 : i < l.length) : l[i.toNat]? = some (l.getD i.toNat d) := by
  rw [List.getD_eq_getElem?_getD, List.getElem?_eq_getElem (by omega)]
  rfl

/-- A loop that fills a row with what it makes of another row's elements. -/
theorem fill_loop {α β : Type} (F : Nat → List α → List β → Int → Option (List β)) (conv : α → β) (d : α)
    (hstep : ∀ (k : Nat) (xs : List α) (ys : List β) (i : Int), 0 ≤ i → i < xs.length → i < ys.length → i ≤ 4611686018427387904 → F (k + 1) xs ys i = F k xs (ys.set i.toNat (conv (xs.getD i.toNat d))) (i + 1))
    (hend : ∀ (k : Nat) (xs : List α) (ys : List β) (i : Int), ¬ i < xs.length → F (k + 1) xs ys i = some ys)
    (xs : List α) (hx : xs.length ≤ 4611686018427387904) : ∀ (n : Nat) (k : Nat) (ys : List β) (i : Int), 0 ≤ i → i ≤ xs.length → (xs.length : Int) - i = n → n < k → ys.length = xs.length →
      (∀ j : Nat, (j : Int) < i → ys[j]? = (xs[j]?).map conv) → F k xs ys i = some (xs.map conv) := by
  intro n
  induction n with
  | zero =>
    intro k ys i h0 h1 hn hk hl hp
    obtain ⟨k, rfl⟩ : ∃ m, k = m + 1 := ⟨k - 1, by omega⟩
    rw [hend k xs ys i (by omega)]
    congr 1
    apply List.ext_getElem?
    intro j
    by_cases hj : (j : Int) < i
    · rw [hp j hj, List.getElem?_map]
    · rw [List.getElem?_eq_none (by omega), List.getElem?_eq_none (by simp; omega)]
  | succ n ih =>
    intro k ys i h0 h1 hn hk hl hp
    obtain ⟨k, rfl⟩ : ∃ m, k = m + 1 := ⟨k - 1, by omega⟩
    rw [hstep k xs ys i h0 (by omega) (by omega) (by omega)]
    refine ih k _ (i + 1) (by omega) (by omega) (by omega) (by omega) (by simpa using hl) fun j hj => ?_
    by_cases he : j = i.toNat
    · subst he
      rw [List.getElem?_set_self (by omega), get_getD xs d i h0 (by omega)]
      rfl
    · rw [List.getElem?_set_ne (by omega)]
      exact hp j (by omega)
theorem fill_all {α β : Type} {F : Nat → List α → List β → Int → Option (List β)} (conv : α → β) (d : α) (z : β)
    (hstep : ∀ (k : Nat) (xs : List α) (ys : List β) (i : Int), 0 ≤ i → i < xs.length → i < ys.length → i ≤ 4611686018427387904 → F (k + 1) xs ys i = F k xs (ys.set i.toNat (conv (xs.getD i.toNat d))) (i + 1))
    (hend : ∀ (k : Nat) (xs : List α) (ys : List β) (i : Int), ¬ i < xs.length → F (k + 1) xs ys i = some ys)
    (xs : List α) (hx : xs.length ≤ 4611686018427387904) : From (fun k => F k xs (List.replicate xs.length z) 0) (xs.map conv) :=
  ⟨xs.length + 1, fun k hk => fill_loop F conv d hstep hend xs hx xs.length k _ 0 (by omega) (by omega) (by omega) (by omega) (by simp) (fun j hj => by omega)⟩
/-- A loop that says yes to each element. -/
theorem all_loop {ρ : Type} (F : Nat → Int → Option ρ) (n : Nat) (hn : n ≤ 4611686018427387904) (K : Nat) (r : ρ)
    (hstep : ∀ (k : Nat) (i : Int), K ≤ k → 0 ≤ i → i < n → F (k + 1) i = F k (i + 1)) (hend : ∀ (k : Nat) (i : Int), K ≤ k → ¬ i < n → F (k + 1) i = some r) :
    From (fun k => F k 0) r := by
  have key : ∀ (m : Nat) (k : Nat) (i : Int), 0 ≤ i → i ≤ n → (n : Int) - i = m → m + K < k → F k i = some r := by
    intro m
    induction m with
    | zero =>
      intro k i h0 h1 hm hk
      obtain ⟨k, rfl⟩ : ∃ m, k = m + 1 := ⟨k - 1, by omega⟩
      exact hend k i (by omega) (by omega)
    | succ m ih =>
      intro k i h0 h1 hm hk
      obtain ⟨k, rfl⟩ : ∃ m, k = m + 1 := ⟨k - 1, by omega⟩
      rw [hstep k i (by omega) h0 (by omega)]
      exact ih k (i + 1) (by omega) (by omega) (by omega) (by omega)
  exact ⟨n + K + 1, fun k hk => key n k 0 (by omega) (by omega) (by omega) (by omega)⟩

/-- Two loops that run side by side: in each round both go on, or both end with the same. -/
theorem pair_loop {ρ : Type} (F G : Nat → Int → Option ρ) (n : Nat) (K : Nat)
    (hstep : ∀ (k : Nat) (i : Int), K ≤ k → 0 ≤ i → i < n → (F (k + 1) i = F k (i + 1) ∧ G (k + 1) i = G k (i + 1)) ∨ ∃ r, F (k + 1) i = some r ∧ G (k + 1) i = some r)
    (hend : ∃ r, ∀ (k : Nat), K ≤ k → F (k + 1) n = some r ∧ G (k + 1) n = some r)
    (hF : ∀ k i, LeO (F k i) (F (k + 1) i)) (hG : ∀ k i, LeO (G k i) (G (k + 1) i)) :
    ∃ r, From (fun k => F k 0) r ∧ From (fun k => G k 0) r := by
  have key : ∀ (m : Nat) (k : Nat) (i : Int), 0 ≤ i → i ≤ n → (n : Int) - i = m → m + K < k → ∃ r, F k i = some r ∧ G k i = some r := by
    intro m
    induction m with
    | zero =>
      intro k i h0 h1 hm hk
      obtain ⟨k, rfl⟩ : ∃ m, k = m + 1 := ⟨k - 1, by omega⟩
      obtain ⟨r, hr⟩ := hend
      obtain rfl : i = n := by omega
      exact ⟨r, hr k (by omega)⟩
    | succ m ih =>
      intro k i h0 h1 hm hk
      obtain ⟨k, rfl⟩ : ∃ m, k = m + 1 := ⟨k - 1, by omega⟩
      rcases hstep k i (by omega) h0 (by omega) with ⟨h2, h3⟩ | h
      · rw [h2, h3]
        exact ih k (i + 1) (by omega) (by omega) (by omega) (by omega)
      · exact h
  obtain ⟨r, h1, h2⟩ := key n (n + K + 1) 0 (by omega) (by omega) (by omega) (by omega)
  exact ⟨r, ⟨n + K + 1, fun k hk => at_rounds (fun k => hF k 0) hk h1⟩, ⟨n + K + 1, fun k hk => at_rounds (fun k => hG k 0) hk h2⟩⟩

end Go.Proofs.Ytaafhggihebicaa.XP
