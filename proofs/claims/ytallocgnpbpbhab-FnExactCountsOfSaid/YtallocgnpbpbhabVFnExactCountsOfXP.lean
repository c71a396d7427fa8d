-- The print's words of YtallocgnpbpbhabXP, those that this claim's texts need (slim.py). Not trusted: Lean checks it.
import Derived.Test.YtallocgnpbpbhabVFnExactCountsOfMore
namespace Go.Proofs.Ytallocgnpbpbhab.XP
open Go.RowKit Go.Proofs.YtallocgnpbpbhabW.PrintWords Go.Proofs.YtallocgnpbpbhabW.PrintLast
set_option linter.unusedVariables false

theorem w64 {x : Int} (h0 : -9223372036854775808 ≤ x) (h1 : x ≤ 9223372036854775807) : wrap64 x = x := by unfold wrap64; omega
theorem wsucc {x : Int} (h0 : 0 ≤ x) (h1 : x ≤ 4611686018427387904) : wrap64 (x + 1) = x + 1 := w64 (by omega) (by omega)
theorem wpred {x : Int} (h0 : 0 ≤ x) (h1 : x ≤ 4611686018427387904) : wrap64 (x - 1) = x - 1 := w64 (by omega) (by omega)
/-- From some number of rounds on. -/
def From {α : Type} (g : Nat → Option α) (r : α) : Prop := ∃ K, ∀ k, K ≤ k → g k = some r
theorem from_now {α : Type} {g : Nat → Option α} {r : α} (h : ∀ k, g k = some r) : From g r := ⟨0, fun k _ => h k⟩
theorem From.two {α β : Type} {g : Nat → Option α} {f : Nat → Option β} {r : α} {s : β} (h : From g r) (h' : From f s) : ∃ K, ∀ k, K ≤ k → g k = some r ∧ f k = some s := by
  obtain ⟨K, hK⟩ := h
  obtain ⟨L, hL⟩ := h'
  exact ⟨max K L, fun k hk => ⟨hK k (by omega), hL k (by omega)⟩⟩
theorem get_getD {α : Type} (l : List α) (d : α) (i : Int) (h0 : 0 ≤ i) (h1 : i < l.length) : l[i.toNat]? = some (l.getD i.toNat d) := by
  rw [List.getD_eq_getElem?_getD, List.getElem?_eq_getElem (by omega)]
  rfl

/-- A loop that fills a row with what it makes of another row's elements. -/
theorem fill_loop {α β : Type} (F : Nat → List α → List β → Int → Option (List β)) (conv : α → β) (d : α)
    (hstep : ∀ (k : Nat) (xs : List α) (ys : List β) (i : Int), 0 ≤ i → i < xs.length → i < ys.length → i ≤ 4611686018427387904 → F (k + 1) xs ys i = F k xs (ys.set i.toNat (conv (xs.getD i.toNat d))) (i + 1))
    (hend : ∀ (k : Nat) (xs : List α) (ys : List β) (i : Int), ¬ i < xs.length → F (k + 1) xs ys i = some ys)
    (xs : List α) (hx : xs.length ≤ 4611686018427387904) : ∀ (n : Nat) (k : Nat) (ys : List β) (i : Int), 0 ≤ i → i ≤ xs.length → (xs.length : Int) - i = n → n < k → ys.length = xs.length →
      (∀ j : Nat, (j : Int) < i → ys[j]? = (xs[j]?).map conv) → F k xs ys i = some (xs.map conv) := by
  intro n
  induction n with
  | zero =>
    intro k ys i h0 h1 hn hk hl hp
    obtain ⟨k, rfl⟩ : ∃ m, k = m + 1 := ⟨k - 1, by omega⟩
    rw [hend k xs ys i (by omega)]
    congr 1
    apply List.ext_getElem?
    intro j
    by_cases hj : (j : Int) < i
    · rw [hp j hj, List.getElem?_map]
    · rw [List.getElem?_eq_none (by omega), List.getElem?_eq_none (by simp; omega)]
  | succ n ih =>
    intro k ys i h0 h1 hn hk hl hp
    obtain ⟨k, rfl⟩ : ∃ m, k = m + 1 := ⟨k - 1, by omega⟩
    rw [hstep k xs ys i h0 (by omega) (by omega) (by omega)]
    refine ih k _ (i + 1) (by omega) (by omega) (by omega) (by omega) (by simpa using hl) fun j hj => ?_
    by_cases he : j = i.toNat
    · subst he
      rw [List.getElem?_set_self (by omega), get_getD xs d i h0 (by omega)]
      rfl
    · rw [List.getElem?_set_ne (by omega)]
      exact hp j (by omega)
theorem fill_all {α β : Type} {F : Nat → List α → List β → Int → Option (List β)} (conv : α → β) (d : α) (z : β)
    (hstep : ∀ (k : Nat) (xs : List α) (ys : List β) (i : Int), 0 ≤ i → i < xs.length → i < ys.length → i ≤ 4611686018427387904 → F (k + 1) xs ys i = F k xs (ys.set i.toNat (conv (xs.getD i.toNat d))) (i + 1))
    (hend : ∀ (k : Nat) (xs : List α) (ys : List β) (i : Int), ¬ i < xs.length → F (k + 1) xs ys i = some ys)
    (xs : List α) (hx : xs.length ≤ 4611686018427387904) : From (fun k => F k xs (List.replicate xs.length z) 0) (xs.map conv) :=
  ⟨xs.length + 1, fun k hk => fill_loop F conv d hstep hend xs hx xs.length k _ 0 (by omega) (by omega) (by omega) (by omega) (by simp) (fun j hj => by omega)⟩
/-- A loop that says yes to each element. -/
theorem all_loop {ρ : Type} (F : Nat → Int → Option ρ) (n : Nat) (hn : n ≤ 4611686018427387904) (K : Nat) (r : ρ)
    (hstep : ∀ (k : Nat) (i : Int), K ≤ k → 0 ≤ i → i < n → F (k + 1) i = F k (i + 1)) (hend : ∀ (k : Nat) (i : Int), K ≤ k → ¬ i < n → i = n → F (k + 1) i = some r) :
    From (fun k => F k 0) r := by
  have key : ∀ (m : Nat) (k : Nat) (i : Int), 0 ≤ i → i ≤ n → (n : Int) - i = m → m + K < k → F k i = some r := by
    intro m
    induction m with
    | zero =>
      intro k i h0 h1 hm hk
      obtain ⟨k, rfl⟩ : ∃ m, k = m + 1 := ⟨k - 1, by omega⟩
      exact hend k i (by omega) (by omega) (by omega)
    | succ m ih =>
      intro k i h0 h1 hm hk
      obtain ⟨k, rfl⟩ : ∃ m, k = m + 1 := ⟨k - 1, by omega⟩
      rw [hstep k i (by omega) h0 (by omega)]
      exact ih k (i + 1) (by omega) (by omega) (by omega) (by omega)
  exact ⟨n + K + 1, fun k hk => key n k 0 (by omega) (by omega) (by omega) (by omega)⟩

/-- Two loops that run side by side: in each round both go on, or both end with the same. -/
theorem pair_loop {ρ : Type} (F G : Nat → Int → Option ρ) (n : Nat) (K : Nat)
    (hstep : ∀ (k : Nat) (i : Int), K ≤ k → 0 ≤ i → i < n → (F (k + 1) i = F k (i + 1) ∧ G (k + 1) i = G k (i + 1)) ∨ ∃ r, F (k + 1) i = some r ∧ G (k + 1) i = some r)
    (hend : ∃ r, ∀ (k : Nat), K ≤ k → F (k + 1) n = some r ∧ G (k + 1) n = some r)
    (hF : ∀ k i, LeO (F k i) (F (k + 1) i)) (hG : ∀ k i, LeO (G k i) (G (k + 1) i)) :
    ∃ r, From (fun k => F k 0) r ∧ From (fun k => G k 0) r := by
  have key : ∀ (m : Nat) (k : Nat) (i : Int), 0 ≤ i → i ≤ n → (n : Int) - i = m → m + K < k → ∃ r, F k i = some r ∧ G k i = some r := by
    intro m
    induction m with
    | zero =>
      intro k i h0 h1 hm hk
      obtain ⟨k, rfl⟩ : ∃ m, k = m + 1 := ⟨k - 1, by omega⟩
      obtain ⟨r, hr⟩ := hend
      obtain rfl : i = n := by omega
      exact ⟨r, hr k (by omega)⟩
    | succ m ih =>
      intro k i h0 h1 hm hk
      obtain ⟨k, rfl⟩ : ∃ m, k = m + 1 := ⟨k - 1, by omega⟩
      rcases hstep k i (by omega) h0 (by omega) with ⟨h2, h3⟩ | h
      · rw [h2, h3]
        exact ih k (i + 1) (by omega) (by omega) (by omega) (by omega)
      · exact h
  obtain ⟨r, h1, h2⟩ := key n (n + K + 1) 0 (by omega) (by omega) (by omega) (by omega)
  exact ⟨r, ⟨n + K + 1, fun k hk => at_rounds (fun k => hF k 0) hk h1⟩, ⟨n + K + 1, fun k hk => at_rounds (fun k => hG k 0) hk h2⟩⟩

/-- A loop that writes marks into a row: c marks an element. -/
theorem mark_loop {α : Type} (F : Nat → List α → Int → Int → Option (Int × List α)) (c : Int) (hc : 0 ≤ c) (hc2 : c ≤ 1000) (g : Int → α)
    (hstep : ∀ (k : Nat) (xs : List α) (m i : Int), 0 ≤ i → i < xs.length → i ≤ 4611686018427387904 → 0 ≤ m → m + c ≤ 4611686018427387904 → F (k + 1) xs m i = F k (xs.set i.toNat (g m)) (m + c) (i + 1))
    (hend : ∀ (k : Nat) (xs : List α) (m i : Int), ¬ i < xs.length → F (k + 1) xs m i = some (m, xs)) :
    ∀ (n : Nat) (k : Nat) (xs : List α) (m i : Int), 0 ≤ i → i ≤ xs.length → (xs.length : Int) - i = n → n < k → 0 ≤ m → m + c * n ≤ 4611686018427387904 → xs.length ≤ 4611686018427387904 →
      ∃ ys, F k xs m i = some (m + c * n, ys) ∧ ys.length = xs.length ∧ (∀ j : Nat, (j : Int) < i → ys[j]? = xs[j]?) ∧ ∀ j : Nat, i ≤ j → j < xs.length → ys[j]? = some (g (m + c * ((j : Int) - i))) := by
  intro n
  induction n with
  | zero =>
    intro k xs m i h0 h1 hn hk hm hb hl
    obtain ⟨k, rfl⟩ : ∃ m, k = m + 1 := ⟨k - 1, by omega⟩
    refine ⟨xs, ?_, rfl, fun _ _ => rfl, fun j h2 h3 => by omega⟩
    rw [hend k xs m i (by omega)]
    simp
  | succ n ih =>
    intro k xs m i h0 h1 hn hk hm hb hl
    obtain ⟨k, rfl⟩ : ∃ m, k = m + 1 := ⟨k - 1, by omega⟩
    have hcn : c * ((n + 1 : Nat) : Int) = c * n + c := by rw [Int.natCast_add, Int.mul_add]; simp
    have hnn : 0 ≤ c * (n : Int) := Int.mul_nonneg hc (by omega)
    rw [hstep k xs m i h0 (by omega) (by omega) hm (by omega)]
    obtain ⟨ys, e, h2, h3, h4⟩ := ih k (xs.set i.toNat (g m)) (m + c) (i + 1) (by omega) (by simp; omega) (by simp; omega) (by omega) (by omega) (by omega) (by simpa using hl)
    refine ⟨ys, ?_, by simpa using h2, fun j hj => ?_, fun j h5 h6 => ?_⟩
    · rw [e, hcn]; congr 2; omega
    · rw [h3 j (by omega), List.getElem?_set_ne (by omega)]
    · by_cases he : (j : Int) = i
      · rw [h3 j (by omega)]
        obtain rfl : j = i.toNat := by omega
        rw [List.getElem?_set_self (by omega)]
        congr 2
        have : ((i.toNat : Nat) : Int) - i = 0 := by omega
        rw [this]; simp
      · rw [h4 j (by omega) (by simpa using h6)]
        congr 2
        have : (j : Int) - i = ((j : Int) - (i + 1)) + 1 := by omega
        rw [this, Int.mul_add, Int.mul_one]; omega
theorem mark_all {α : Type} {F : Nat → List α → Int → Int → Option (Int × List α)} (c : Int) (hc : 0 ≤ c) (hc2 : c ≤ 1000) (g : Int → α)
    (hstep : ∀ (k : Nat) (xs : List α) (m i : Int), 0 ≤ i → i < xs.length → i ≤ 4611686018427387904 → 0 ≤ m → m + c ≤ 4611686018427387904 → F (k + 1) xs m i = F k (xs.set i.toNat (g m)) (m + c) (i + 1))
    (hend : ∀ (k : Nat) (xs : List α) (m i : Int), ¬ i < xs.length → F (k + 1) xs m i = some (m, xs))
    (xs : List α) (m : Int) (hm : 0 ≤ m) (hb : m + c * xs.length ≤ 4611686018427387904) (hl : xs.length ≤ 4611686018427387904) :
    ∃ ys, From (fun k => F k xs m 0) (m + c * xs.length, ys) ∧ ys.length = xs.length ∧ ∀ j : Nat, j < xs.length → ys[j]? = some (g (m + c * j)) := by
  obtain ⟨ys, _, h2, _, h4⟩ := mark_loop F c hc hc2 g hstep hend xs.length (xs.length + 1) xs m 0 (by omega) (by omega) (by omega) (by omega) hm hb hl
  refine ⟨ys, ⟨xs.length + 1, fun k hk => ?_⟩, h2, fun j hj => by simpa using h4 j (by omega) hj⟩
  obtain ⟨zs, e, h2', _, h4'⟩ := mark_loop F c hc hc2 g hstep hend xs.length k xs m 0 (by omega) (by omega) (by omega) (by omega) hm hb hl
  show F k xs m 0 = _
  rw [e]
  congr 2
  apply List.ext_getElem?
  intro j
  by_cases hj : j < xs.length
  · rw [h4' j (by omega) hj, h4 j (by omega) hj]
  · rw [List.getElem?_eq_none (by omega), List.getElem?_eq_none (by omega)]
theorem mul_mono {c : Int} {n N : Nat} (hc : 0 ≤ c) (h : n ≤ N) : c * (n : Int) ≤ c * N := Int.mul_le_mul_of_nonneg_left (by omega) hc
theorem getD_of {α : Type} {l : List α} {d x : α} {j : Nat} (h : l[j]? = some x) : l.getD j d = x := by rw [List.getD_eq_getElem?_getD, h]; rfl
theorem getD_set {α : Type} {l : List α} {d x : α} {j : Nat} (h : j < l.length) : (l.set j x).getD j d = x := getD_of (by rw [List.getElem?_set_self h])

/-- A loop that goes on as long as a test holds. -/
theorem test_loop {ρ : Type} (F : Nat → Int → Option ρ) (n : Nat) (K : Nat) (p : Nat → Bool) (no yes : ρ)
    (hstep : ∀ (k : Nat) (i : Int), K ≤ k → 0 ≤ i → i < n → F (k + 1) i = if p i.toNat = true then F k (i + 1) else some no)
    (hend : ∀ (k : Nat), K ≤ k → F (k + 1) n = some yes) : From (fun k => F k 0) (if (List.range n).all p = true then yes else no) := by
  have key : ∀ (m : Nat) (k : Nat) (i : Int), 0 ≤ i → i ≤ n → (n : Int) - i = m → m + K < k → F k i = some (if ((List.range n).drop i.toNat).all p = true then yes else no) := by
    intro m
    induction m with
    | zero =>
      intro k i h0 h1 hm hk
      obtain ⟨k, rfl⟩ : ∃ m, k = m + 1 := ⟨k - 1, by omega⟩
      obtain rfl : i = n := by omega
      rw [hend k (by omega), List.drop_of_length_le (by simp)]
      simp
    | succ m ih =>
      intro k i h0 h1 hm hk
      obtain ⟨k, rfl⟩ : ∃ m, k = m + 1 := ⟨k - 1, by omega⟩
      have hi : i.toNat < n := by omega
      rw [hstep k i (by omega) h0 (by omega), List.drop_eq_getElem_cons (by simpa using hi), List.all_cons, List.getElem_range]
      by_cases hp : p i.toNat = true
      · rw [if_pos hp, ih k (i + 1) (by omega) (by omega) (by omega) (by omega), hp, Bool.true_and, show (i + 1).toNat = i.toNat + 1 by omega]
      · rw [if_neg hp, Bool.eq_false_iff.2 hp, Bool.false_and]
        rfl
  exact ⟨n + K + 1, fun k hk => by
    have := key n k 0 (by omega) (by omega) (by omega) (by omega)
    simpa using this⟩

/-- The same, of a Bool. -/
theorem test_loopB (F : Nat → Int → Option Bool) (n : Nat) (K : Nat) (p : Nat → Bool) (yes : Bool)
    (hstep : ∀ (k : Nat) (i : Int), K ≤ k → 0 ≤ i → i < n → F (k + 1) i = if p i.toNat = true then F k (i + 1) else some false)
    (hend : ∀ (k : Nat), K ≤ k → F (k + 1) n = some yes) : ∃ K', ∀ k, K' ≤ k → F k 0 = some ((List.range n).all p && yes) := by
  obtain ⟨K', h⟩ := test_loop F n K p false yes hstep hend
  refine ⟨K', fun k hk => (h k hk).trans ?_⟩
  cases (List.range n).all p <;> simp

/-- One number of rounds for all that stand at a row's places. -/
theorem from_all {β : Type} {g : Nat → Nat → Option β} (r : Nat → β) : ∀ n : Nat, (∀ j, j < n → From (fun k => g k j) (r j)) → ∃ K, ∀ k, K ≤ k → ∀ j, j < n → g k j = some (r j)
  | 0, _ => ⟨0, fun k _ j h => by omega⟩
  | n + 1, h => by
    obtain ⟨K, hK⟩ := from_all r n fun j hj => h j (by omega)
    obtain ⟨L, hL⟩ := h n (by omega)
    refine ⟨max K L, fun k hk j hj => ?_⟩
    by_cases e : j = n
    · subst e; exact hL k (by omega)
    · exact hK k (by omega) j (by omega)
theorem getD_mem {α : Type} {l : List α} {j : Nat} (d : α) (h : j < l.length) : l.getD j d ∈ l := by rw [List.getD_eq_getElem?_getD, List.getElem?_eq_getElem h]; exact List.getElem_mem h
theorem getD_map {α β : Type} (f : α → β) {l : List α} {j : Nat} (d : α) (e : β) (h : j < l.length) : (l.map f).getD j e = f (l.getD j d) := by
  rw [List.getD_eq_getElem?_getD, List.getD_eq_getElem?_getD, List.getElem?_map, List.getElem?_eq_getElem h]
  rfl
/-- A loop that fills a row, its rounds calling what needs rounds. -/
theorem fill_allK {α β : Type} {F : Nat → List β → Int → Option (List β)} (conv : α → β) (d : α) (z : β) (xs : List α) (K : Nat)
    (hstep : ∀ (k : Nat) (ys : List β) (i : Int), K ≤ k → 0 ≤ i → i < xs.length → i < ys.length → F (k + 1) ys i = F k (ys.set i.toNat (conv (xs.getD i.toNat d))) (i + 1))
    (hend : ∀ (k : Nat) (ys : List β) (i : Int), K ≤ k → ¬ i < xs.length → F (k + 1) ys i = some ys) : ∃ K', ∀ k, K' ≤ k → F k (List.replicate xs.length z) 0 = some (xs.map conv) := by
  have key : ∀ (n : Nat) (k : Nat) (ys : List β) (i : Int), 0 ≤ i → i ≤ xs.length → (xs.length : Int) - i = n → n + K < k → ys.length = xs.length →
      (∀ j : Nat, (j : Int) < i → ys[j]? = (xs[j]?).map conv) → F k ys i = some (xs.map conv) := by
    intro n
    induction n with
    | zero =>
      intro k ys i h0 h1 hn hk hl hp
      obtain ⟨k, rfl⟩ : ∃ m, k = m + 1 := ⟨k - 1, by omega⟩
      rw [hend k ys i (by omega) (by omega)]
      congr 1
      apply List.ext_getElem?
      intro j
      by_cases hj : (j : Int) < i
      · rw [hp j hj, List.getElem?_map]
      · rw [List.getElem?_eq_none (by omega), List.getElem?_eq_none (by simp; omega)]
    | succ n ih =>
      intro k ys i h0 h1 hn hk hl hp
      obtain ⟨k, rfl⟩ : ∃ m, k = m + 1 := ⟨k - 1, by omega⟩
      rw [hstep k ys i (by omega) h0 (by omega) (by omega)]
      refine ih k _ (i + 1) (by omega) (by omega) (by omega) (by omega) (by simpa using hl) fun j hj => ?_
      by_cases he : j = i.toNat
      · subst he
        rw [List.getElem?_set_self (by omega), get_getD xs d i h0 (by omega)]
        rfl
      · rw [List.getElem?_set_ne (by omega)]
        exact hp j (by omega)
  exact ⟨xs.length + K + 1, fun k hk => key xs.length k _ 0 (by omega) (by omega) (by omega) (by omega) (by simp) (fun j hj => by omega)⟩
/-- A loop that pays for each element of a row. -/
theorem pay_loop {F : Nat → Int → Int → Option Int} (n : Nat) (p : Nat → Prop)
    (hstep : ∀ (a i : Int), 0 ≤ i → i < n → 0 ≤ a → a ≤ 1048576 → ∃ K, (∀ k, K ≤ k → F (k + 1) a i = some (-1)) ∨ ∃ t, 0 ≤ t ∧ t ≤ a ∧ p i.toNat ∧ ∀ k, K ≤ k → F (k + 1) a i = F k t (i + 1))
    (hend : ∀ (k : Nat) (a : Int), F (k + 1) a n = some a) (a : Int) (ha : 0 ≤ a) (ha2 : a ≤ 1048576) :
    ∃ r, From (fun k => F k a 0) r ∧ (r < 0 ∨ (0 ≤ r ∧ r ≤ a ∧ ∀ j, j < n → p j)) := by
  have key : ∀ (m : Nat) (a i : Int), 0 ≤ i → i ≤ n → (n : Int) - i = m → 0 ≤ a → a ≤ 1048576 → ∃ r, From (fun k => F k a i) r ∧ (r < 0 ∨ (0 ≤ r ∧ r ≤ a ∧ ∀ j : Nat, i ≤ j → j < n → p j)) := by
    intro m
    induction m with
    | zero =>
      intro a i h0 h1 hm ha ha2
      obtain rfl : i = n := by omega
      exact ⟨a, ⟨1, fun k hk => by obtain ⟨k, rfl⟩ : ∃ m, k = m + 1 := ⟨k - 1, by omega⟩; exact hend k a⟩, .inr ⟨ha, by omega, fun j h2 h3 => by omega⟩⟩
    | succ m ih =>
      intro a i h0 h1 hm ha ha2
      obtain ⟨K, h | ⟨t, t0, t1, hp, h⟩⟩ := hstep a i h0 (by omega) ha ha2
      · exact ⟨-1, ⟨K + 1, fun k hk => by obtain ⟨k, rfl⟩ : ∃ m, k = m + 1 := ⟨k - 1, by omega⟩; exact h k (by omega)⟩, .inl (by omega)⟩
      · obtain ⟨r, ⟨L, hL⟩, hr⟩ := ih t (i + 1) (by omega) (by omega) (by omega) t0 (by omega)
        refine ⟨r, ⟨max K L + 1, fun k hk => ?_⟩, hr.imp id fun ⟨r0, r1, h2⟩ => ⟨r0, by omega, fun j h3 h4 => ?_⟩⟩
        · obtain ⟨k, rfl⟩ : ∃ m, k = m + 1 := ⟨k - 1, by omega⟩
          exact (h k (by omega)).trans (hL k (by omega))
        · by_cases e : (j : Int) = i
          · have : i.toNat = j := by omega
            rw [← this]; exact hp
          · exact h2 j (by omega) h4
  obtain ⟨r, h, h2⟩ := key n a 0 (by omega) (by omega) (by omega) ha ha2
  exact ⟨r, h, h2.imp id fun ⟨r0, r1, h3⟩ => ⟨r0, r1, fun j hj => h3 j (by omega) hj⟩⟩

/-- A loop that goes on as long as a test holds, each of whose rounds takes c rounds. -/
theorem test_loopC (F : Nat → Int → Option Bool) (c : Nat) (n : Nat) (K : Nat) (p : Nat → Bool) (yes : Bool)
    (hstep : ∀ (k : Nat) (i : Int), K ≤ k → 0 ≤ i → i < n → F (k + c) i = if p i.toNat = true then F k (i + 1) else some false)
    (hend : ∀ (k : Nat), K ≤ k → F (k + c) n = some yes) : ∃ K', ∀ k, K' ≤ k → F k 0 = some ((List.range n).all p && yes) := by
  have key : ∀ (m : Nat) (k : Nat) (i : Int), 0 ≤ i → i ≤ n → (n : Int) - i = m → m * c + K + c ≤ k → F k i = some (((List.range n).drop i.toNat).all p && yes) := by
    intro m
    induction m with
    | zero =>
      intro k i h0 h1 hm hk
      obtain ⟨k, rfl⟩ : ∃ m, k = m + c := ⟨k - c, by omega⟩
      obtain rfl : i = n := by omega
      rw [hend k (by omega), List.drop_of_length_le (by simp)]
      simp
    | succ m ih =>
      intro k i h0 h1 hm hk
      rw [Nat.succ_mul] at hk
      obtain ⟨k, rfl⟩ : ∃ m, k = m + c := ⟨k - c, by omega⟩
      have hi : i.toNat < n := by omega
      rw [hstep k i (by omega) h0 (by omega), List.drop_eq_getElem_cons (by simpa using hi), List.all_cons, List.getElem_range]
      by_cases hp : p i.toNat = true
      · rw [if_pos hp, ih k (i + 1) (by omega) (by omega) (by omega) (by omega), hp, Bool.true_and, show (i + 1).toNat = i.toNat + 1 by omega]
      · rw [if_neg hp, Bool.eq_false_iff.2 hp, Bool.false_and, Bool.false_and]
  exact ⟨n * c + K + c, fun k hk => by
    have := key n k 0 (by omega) (by omega) (by omega) (by omega)
    simpa using this⟩

/-- A loop that collects. -/
theorem collect_loop {α β : Type} (F : Nat → List β → Int → Option (List β)) (xs : List α) (d : α) (K : Nat) (g : α → Option β)
    (hstep : ∀ (k : Nat) (out : List β) (i : Int), K ≤ k → 0 ≤ i → i < xs.length → out.length ≤ i → F (k + 1) out i = F k (out ++ (g (xs.getD i.toNat d)).toList) (i + 1))
    (hend : ∀ (k : Nat) (out : List β), K ≤ k → F (k + 1) out xs.length = some out) : ∃ K', ∀ k, K' ≤ k → F k [] 0 = some (xs.filterMap g) := by
  have key : ∀ (n : Nat) (k : Nat) (out : List β) (i : Int), 0 ≤ i → i ≤ xs.length → (xs.length : Int) - i = n → n + K < k → out.length ≤ i → F k out i = some (out ++ (xs.drop i.toNat).filterMap g) := by
    intro n
    induction n with
    | zero =>
      intro k out i h0 h1 hn hk ho
      obtain ⟨k, rfl⟩ : ∃ m, k = m + 1 := ⟨k - 1, by omega⟩
      obtain rfl : i = xs.length := by omega
      rw [hend k out (by omega), List.drop_of_length_le (by omega)]
      simp
    | succ n ih =>
      intro k out i h0 h1 hn hk ho
      obtain ⟨k, rfl⟩ : ∃ m, k = m + 1 := ⟨k - 1, by omega⟩
      have hi : i.toNat < xs.length := by omega
      have hg : xs.getD i.toNat d = xs[i.toNat] := by rw [List.getD_eq_getElem?_getD, List.getElem?_eq_getElem hi]; rfl
      have hl : (out ++ (g (xs.getD i.toNat d)).toList).length ≤ i + 1 := by
        rw [List.length_append]
        cases g (xs.getD i.toNat d) <;> simp <;> omega
      rw [hstep k out i (by omega) h0 (by omega) ho, ih k _ (i + 1) (by omega) (by omega) (by omega) (by omega) hl, List.drop_eq_getElem_cons hi, show (i + 1).toNat = i.toNat + 1 by omega, hg, List.filterMap_cons]
      cases g xs[i.toNat] <;> simp
  exact ⟨xs.length + K + 1, fun k hk => by
    have := key xs.length k [] 0 (by omega) (by omega) (by omega) (by omega) (by simp)
    simpa using this⟩
/-- A loop that looks for the first place where a test holds. -/
theorem find_loop {ρ : Type} (F : Nat → Int → Option ρ) (n : Nat) (K : Nat) (p : Nat → Prop) [DecidablePred p] (val : Nat → ρ) (no : ρ)
    (hstep : ∀ (k : Nat) (i : Int), K ≤ k → 0 ≤ i → i < n → F (k + 1) i = if p i.toNat then some (val i.toNat) else F k (i + 1))
    (hend : ∀ (k : Nat), K ≤ k → F (k + 1) n = some no) :
    ∃ K', (∃ j, j < n ∧ p j ∧ (∀ i, i < j → ¬ p i) ∧ ∀ k, K' ≤ k → F k 0 = some (val j)) ∨ ((∀ i, i < n → ¬ p i) ∧ ∀ k, K' ≤ k → F k 0 = some no) := by
  have key : ∀ (m : Nat) (i : Int), 0 ≤ i → i ≤ n → (n : Int) - i = m → (∀ j : Nat, (j : Int) < i → ¬ p j) →
      (∃ j, j < n ∧ p j ∧ (∀ i, i < j → ¬ p i) ∧ ∀ k, m + K < k → F k i = some (val j)) ∨ ((∀ i, i < n → ¬ p i) ∧ ∀ k, m + K < k → F k i = some no) := by
    intro m
    induction m with
    | zero =>
      intro i h0 h1 hm hp
      obtain rfl : i = n := by omega
      refine .inr ⟨fun j hj => hp j (by omega), fun k hk => ?_⟩
      obtain ⟨k, rfl⟩ : ∃ m, k = m + 1 := ⟨k - 1, by omega⟩
      exact hend k (by omega)
    | succ m ih =>
      intro i h0 h1 hm hp
      by_cases c : p i.toNat
      · refine .inl ⟨i.toNat, by omega, c, fun j hj => hp j (by omega), fun k hk => ?_⟩
        obtain ⟨k, rfl⟩ : ∃ m, k = m + 1 := ⟨k - 1, by omega⟩
        rw [hstep k i (by omega) h0 (by omega), if_pos c]
      · have step : ∀ k, m + 1 + K < k → ∃ k', m + K < k' ∧ F k i = F k' (i + 1) := fun k hk => by
          obtain ⟨k, rfl⟩ : ∃ m, k = m + 1 := ⟨k - 1, by omega⟩
          exact ⟨k, by omega, by rw [hstep k i (by omega) h0 (by omega), if_neg c]⟩
        have hp' : ∀ j : Nat, (j : Int) < i + 1 → ¬ p j := fun j hj => by
          by_cases e : (j : Int) = i
          · have : i.toNat = j := by omega
            rwa [← this]
          · exact hp j (by omega)
        rcases ih (i + 1) (by omega) (by omega) (by omega) hp' with ⟨j, a, b, c2, e⟩ | ⟨a, e⟩
        · exact .inl ⟨j, a, b, c2, fun k hk => by obtain ⟨k', h, e'⟩ := step k hk; rw [e', e k' h]⟩
        · exact .inr ⟨a, fun k hk => by obtain ⟨k', h, e'⟩ := step k hk; rw [e', e k' h]⟩
  refine ⟨n + K + 1, ?_⟩
  rcases key n 0 (by omega) (by omega) (by omega) (fun j hj => by omega) with ⟨j, a, b, c, e⟩ | ⟨a, e⟩
  · exact .inl ⟨j, a, b, c, fun k hk => e k (by omega)⟩
  · exact .inr ⟨a, fun k hk => e k (by omega)⟩
/-- What steps strictly up from each place to the next one does so from each place to each later one. -/
theorem steps_up (f : Nat → Int) (n : Nat) (h : ∀ j, 0 < j → j < n → f (j - 1) < f j) : ∀ i j, i < j → j < n → f i < f j := by
  intro i j hij hj
  induction j with
  | zero => omega
  | succ j ih =>
    have := h (j + 1) (by omega) hj
    by_cases e : i = j
    · subst e; simpa using this
    · have := ih (by omega) (by omega); simp at *; omega

/-- A loop that writes marks into a row: c marks an element; the marks stay below B. -/
theorem mark_loopB {α : Type} (B : Int) (hB : B ≤ 4611686018427387904) (F : Nat → List α → Int → Int → Option (Int × List α)) (c : Int) (hc : 0 ≤ c) (hc2 : c ≤ 1000) (g : Int → α)
    (hstep : ∀ (k : Nat) (xs : List α) (m i : Int), 0 ≤ i → i < xs.length → i ≤ 4611686018427387904 → 0 ≤ m → m + c ≤ B → F (k + 1) xs m i = F k (xs.set i.toNat (g m)) (m + c) (i + 1))
    (hend : ∀ (k : Nat) (xs : List α) (m i : Int), ¬ i < xs.length → F (k + 1) xs m i = some (m, xs)) :
    ∀ (n : Nat) (k : Nat) (xs : List α) (m i : Int), 0 ≤ i → i ≤ xs.length → (xs.length : Int) - i = n → n < k → 0 ≤ m → m + c * n ≤ B → xs.length ≤ 4611686018427387904 →
      ∃ ys, F k xs m i = some (m + c * n, ys) ∧ ys.length = xs.length ∧ (∀ j : Nat, (j : Int) < i → ys[j]? = xs[j]?) ∧ ∀ j : Nat, i ≤ j → j < xs.length → ys[j]? = some (g (m + c * ((j : Int) - i))) := by
  intro n
  induction n with
  | zero =>
    intro k xs m i h0 h1 hn hk hm hb hl
    obtain ⟨k, rfl⟩ : ∃ m, k = m + 1 := ⟨k - 1, by omega⟩
    refine ⟨xs, ?_, rfl, fun _ _ => rfl, fun j h2 h3 => by omega⟩
    rw [hend k xs m i (by omega)]
    simp
  | succ n ih =>
    intro k xs m i h0 h1 hn hk hm hb hl
    obtain ⟨k, rfl⟩ : ∃ m, k = m + 1 := ⟨k - 1, by omega⟩
    have hcn : c * ((n + 1 : Nat) : Int) = c * n + c := by rw [Int.natCast_add, Int.mul_add]; simp
    have hnn : 0 ≤ c * (n : Int) := Int.mul_nonneg hc (by omega)
    rw [hstep k xs m i h0 (by omega) (by omega) hm (by omega)]
    obtain ⟨ys, e, h2, h3, h4⟩ := ih k (xs.set i.toNat (g m)) (m + c) (i + 1) (by omega) (by simp; omega) (by simp; omega) (by omega) (by omega) (by omega) (by simpa using hl)
    refine ⟨ys, ?_, by simpa using h2, fun j hj => ?_, fun j h5 h6 => ?_⟩
    · rw [e, hcn]; congr 2; omega
    · rw [h3 j (by omega), List.getElem?_set_ne (by omega)]
    · by_cases he : (j : Int) = i
      · rw [h3 j (by omega)]
        obtain rfl : j = i.toNat := by omega
        rw [List.getElem?_set_self (by omega)]
        congr 2
        have : ((i.toNat : Nat) : Int) - i = 0 := by omega
        rw [this]; simp
      · rw [h4 j (by omega) (by simpa using h6)]
        congr 2
        have : (j : Int) - i = ((j : Int) - (i + 1)) + 1 := by omega
        rw [this, Int.mul_add, Int.mul_one]; omega
theorem mark_allB {α : Type} (B : Int) (hB : B ≤ 4611686018427387904) {F : Nat → List α → Int → Int → Option (Int × List α)} (c : Int) (hc : 0 ≤ c) (hc2 : c ≤ 1000) (g : Int → α)
    (hstep : ∀ (k : Nat) (xs : List α) (m i : Int), 0 ≤ i → i < xs.length → i ≤ 4611686018427387904 → 0 ≤ m → m + c ≤ B → F (k + 1) xs m i = F k (xs.set i.toNat (g m)) (m + c) (i + 1))
    (hend : ∀ (k : Nat) (xs : List α) (m i : Int), ¬ i < xs.length → F (k + 1) xs m i = some (m, xs))
    (xs : List α) (m : Int) (hm : 0 ≤ m) (hb : m + c * xs.length ≤ B) (hl : xs.length ≤ 4611686018427387904) :
    ∃ ys, From (fun k => F k xs m 0) (m + c * xs.length, ys) ∧ ys.length = xs.length ∧ ∀ j : Nat, j < xs.length → ys[j]? = some (g (m + c * j)) := by
  obtain ⟨ys, _, h2, _, h4⟩ := mark_loopB B hB F c hc hc2 g hstep hend xs.length (xs.length + 1) xs m 0 (by omega) (by omega) (by omega) (by omega) hm hb hl
  refine ⟨ys, ⟨xs.length + 1, fun k hk => ?_⟩, h2, fun j hj => by simpa using h4 j (by omega) hj⟩
  obtain ⟨zs, e, h2', _, h4'⟩ := mark_loopB B hB F c hc hc2 g hstep hend xs.length k xs m 0 (by omega) (by omega) (by omega) (by omega) hm hb hl
  show F k xs m 0 = _
  rw [e]
  congr 2
  apply List.ext_getElem?
  intro j
  by_cases hj : j < xs.length
  · rw [h4' j (by omega) hj, h4 j (by omega) hj]
  · rw [List.getElem?_eq_none (by omega), List.getElem?_eq_none (by omega)]

/-- A loop over a row that carries a state: what the state is at each head is told by the fold. -/
theorem fold_then {α σ ρ : Type} (F : Nat → σ → Int → Option ρ) (xs : List α) (d : α) (K : Nat) (step : σ → α → σ) (s0 : σ) (res : ρ)
    (hstep : ∀ (k : Nat) (i : Int), K ≤ k → 0 ≤ i → i < xs.length → F (k + 1) ((xs.take i.toNat).foldl step s0) i = F k (step ((xs.take i.toNat).foldl step s0) (xs.getD i.toNat d)) (i + 1))
    (hend : ∀ (k : Nat), K ≤ k → F (k + 1) (xs.foldl step s0) xs.length = some res) : From (fun k => F k s0 0) res := by
  have key : ∀ (n : Nat) (k : Nat) (i : Int), 0 ≤ i → i ≤ xs.length → (xs.length : Int) - i = n → n + K < k → F k ((xs.take i.toNat).foldl step s0) i = some res := by
    intro n
    induction n with
    | zero =>
      intro k i h0 h1 hn hk
      obtain ⟨k, rfl⟩ : ∃ m, k = m + 1 := ⟨k - 1, by omega⟩
      obtain rfl : i = xs.length := by omega
      rw [List.take_of_length_le (by omega)]
      exact hend k (by omega)
    | succ n ih =>
      intro k i h0 h1 hn hk
      obtain ⟨k, rfl⟩ : ∃ m, k = m + 1 := ⟨k - 1, by omega⟩
      have hi : i.toNat < xs.length := by omega
      have hg : xs.getD i.toNat d = xs[i.toNat] := by rw [List.getD_eq_getElem?_getD, List.getElem?_eq_getElem hi]; rfl
      have e : (xs.take (i + 1).toNat).foldl step s0 = step ((xs.take i.toNat).foldl step s0) (xs.getD i.toNat d) := by
        rw [show (i + 1).toNat = i.toNat + 1 by omega, List.take_succ_eq_append_getElem hi, List.foldl_append, hg]; rfl
      rw [hstep k i (by omega) h0 (by omega), ← e]
      exact ih k (i + 1) (by omega) (by omega) (by omega) (by omega)
  exact ⟨xs.length + K + 1, fun k hk => by
    have := key xs.length k 0 (by omega) (by omega) (by omega) (by omega)
    simpa using this⟩
theorem foldl_collect {α β : Type} (g : α → Option β) : ∀ (xs : List α) (out : List β), xs.foldl (fun out x => out ++ (g x).toList) out = out ++ xs.filterMap g
  | [], out => by simp
  | x :: xs, out => by
    rw [List.foldl_cons, foldl_collect g xs, List.filterMap_cons]
    cases g x <;> simp
/-- A loop that collects, and goes on with what it has. -/
theorem collect_then {α β ρ : Type} (F : Nat → List β → Int → Option ρ) (xs : List α) (d : α) (K : Nat) (g : α → Option β) (res : ρ)
    (hstep : ∀ (k : Nat) (out : List β) (i : Int), K ≤ k → 0 ≤ i → i < xs.length → out.length ≤ i → F (k + 1) out i = F k (out ++ (g (xs.getD i.toNat d)).toList) (i + 1))
    (hend : ∀ (k : Nat), K ≤ k → F (k + 1) (xs.filterMap g) xs.length = some res) : From (fun k => F k [] 0) res := by
  refine fold_then F xs d K (fun out x => out ++ (g x).toList) [] res (fun k i hk h0 h1 => ?_) (fun k hk => ?_)
  · refine hstep k _ i hk h0 h1 ?_
    rw [foldl_collect, List.nil_append]
    have h2 := List.length_filterMap_le g (xs.take i.toNat)
    have h3 : (xs.take i.toNat).length ≤ i.toNat := by rw [List.length_take]; omega
    omega
  · rw [foldl_collect, List.nil_append]; exact hend k hk

end Go.Proofs.Ytallocgnpbpbhab.XP
