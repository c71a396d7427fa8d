/- What is sent into boxes is held or has been missed, nothing else comes or goes, no box holds more than the limit and the last parcels are held, for every two rows of bytes that can be read. -/
import Derived.Test.YtgpiaeklhhacjaaXFnHeldx10
import Derived.Laws.BitsAllLaws
import Derived.Test.YtgpiaeklhhacjaaVFnHeldXP
namespace Go.Proofs.Ytgpiaeklhhacjaa.Pure
open Go.RowKit Go.Proofs.Ytgpiaeklhhacjaa.XFnHeld Go.Proofs.YtgpiaeklhhacjaaW.PrintWords Go.Proofs.YtgpiaeklhhacjaaW.PrintLast Go.Proofs.Ytgpiaeklhhacjaa.XP Go.Proofs.Ytgpiaeklhhacjaa.XP Go.Proofs.Ytgpiaeklhhacjaa.XP Go.Proofs.Ytgpiaeklhhacjaa.XP Go.Proofs.Ytgpiaeklhhacjaa.XP Go.Proofs.Ytgpiaeklhhacjaa.XP
set_option linter.unusedVariables false
set_option linter.unusedSimpArgs false

theorem from_step {α : Type} {f g : Nat → Option α} {r : α} (h : From f r) (K : Nat) (e : ∀ k, K ≤ k → g (k + 1) = f k) : From g r := by
  obtain ⟨L, hL⟩ := h
  refine ⟨K + L + 1, fun k hk => ?_⟩
  obtain ⟨k, rfl⟩ : ∃ n, k = n + 1 := ⟨k - 1, by omega⟩
  rw [e k (by omega)]
  exact hL k (by omega)
theorem in_eq (a b c : Int) : spec_l00In.f a b c = impl_in.f a b c := rfl
theorem in_some (a b c : Int) : impl_in.f a b c = some (decide (b ≤ a ∧ a ≤ c)) := by
  unfold impl_in.f
  split
  · congr 1; rw [decide_eq_decide]; omega
  · congr 1; symm; rw [decide_eq_false_iff_not]; omega

def risesB (l : List Int) : Bool := (List.range l.length).all fun j => decide (1 ≤ l.getD j 0 ∧ l.getD j 0 ≤ 1000) && (decide (j = 0) || decide (l.getD (j - 1) 0 < l.getD j 0))
theorem prev_of {i : Int} (h0 : 0 ≤ i) (h1 : i ≤ 4611686018427387904) (hp : i > 0) : wrap64 (i - 1) = i - 1 ∧ (i - 1).toNat = i.toNat - 1 ∧ 0 ≤ i - 1 := ⟨wpred h0 h1, by omega, by omega⟩
theorem rising_from (l : List Int) (h : l.length ≤ 1073741824) : From (fun k => impl_rising_isMember.f k l) (risesB l) := by
  obtain ⟨K, hK⟩ := test_loopB (fun k i => impl_rising_isMember.l0 k l l l.length i) l.length 0 (fun j => decide (1 ≤ l.getD j 0 ∧ l.getD j 0 ≤ 1000) && (decide (j = 0) || decide (l.getD (j - 1) 0 < l.getD j 0))) true (fun k i _ h0 h1 => by
    simp only [impl_rising_isMember.l0, impl_isMember.f, in_some, h0, h1, if_true, Option.bind_some, wsucc h0 (by omega), rd]
    by_cases c : 1 ≤ l.getD i.toNat 0 ∧ l.getD i.toNat 0 ≤ 1000
    · by_cases c5 : i > 0
      · obtain ⟨p1, p2, p3⟩ := prev_of h0 (by omega) c5
        have p4 : i - 1 < l.length := by omega
        have p5 : ¬ i.toNat = 0 := by omega
        by_cases c6 : l.getD (i.toNat - 1) 0 < l.getD i.toNat 0
        · have c7 : ¬ l.getD (i.toNat - 1) 0 ≥ l.getD i.toNat 0 := by omega
          simp only [c, c5, c6, c7, p1, p2, p3, p4, p5, if_true, if_false, decide_true, decide_false, and_self, Bool.true_and, Bool.false_or]
        · have c7 : l.getD (i.toNat - 1) 0 ≥ l.getD i.toNat 0 := by omega
          simp only [c, c5, c6, c7, p1, p2, p3, p4, p5, if_true, if_false, decide_true, decide_false, and_self, Bool.true_and, Bool.false_or, Bool.false_eq_true]
      · have p5 : i.toNat = 0 := by omega
        rw [p5] at c ⊢
        simp only [c, c5, if_true, if_false, decide_true, and_self, Bool.true_and, Bool.true_or]
    · simp [c, -List.getD_eq_getElem?_getD]) (fun k _ => by simp only [impl_rising_isMember.l0, Int.lt_irrefl, if_false])
  exact ⟨K, fun k hk => by simpa [risesB, impl_rising_isMember.f] using hK k hk⟩
def okP (p : S60) : Bool := decide (1 ≤ p.f0 ∧ p.f0 ≤ 1000) && decide (1 ≤ p.f1 ∧ p.f1 ≤ 1000000)
def okPs (l : List S60) : Bool := decide (l.length ≤ 64) && (List.range l.length).all fun j => okP (l.getD j z60)
theorem l04Parcel_some (p : S60) : spec_l04Parcel.f p.f0 p.f1 = some (okP p) := by
  simp only [spec_l04Parcel.f, in_eq, in_some, Option.bind_some, okP]
  by_cases h : 1 ≤ p.f0 ∧ p.f0 ≤ 1000 <;> simp [h]
theorem parcelOk_some (p : S60) : impl_parcelOk.f p.f0 p.f1 = some (okP p) := by
  simp only [impl_parcelOk.f, in_some, Option.bind_some, okP]
  by_cases h : 1 ≤ p.f0 ∧ p.f0 ≤ 1000 <;> simp [h]
theorem l04Parcels_from (l : List S60) (h : l.length ≤ 1048576) : From (fun k => spec_l04Parcels.f k l) (okPs l) := by
  by_cases hl : l.length ≤ 64
  · have hli : (l.length : Int) ≤ 64 := by omega
    obtain ⟨K, hK⟩ := test_loopC (fun k i => spec_l04Parcels.l0 k l i) 2 l.length 0 (fun j => okP (l.getD j z60)) true (fun k i _ h0 h1 => by
      simp only [spec_l04Parcels.l0, spec_l04Parcels.j1, h0, h1, hli, if_true, decide_true, rd_T60, l04Parcel_some, Option.bind_some, wsucc h0 (by omega)]) (fun k _ => by
      simp only [spec_l04Parcels.l0, spec_l04Parcels.j1, Int.lt_irrefl, if_false, Bool.false_eq_true, hli, decide_true])
    exact ⟨K, fun k hk => by simpa [okPs, hl, spec_l04Parcels.f] using hK k hk⟩
  · have hli : ¬ (l.length : Int) ≤ 64 := by omega
    refine ⟨2, fun k hk => ?_⟩
    obtain ⟨k, rfl⟩ : ∃ n, k = n + 2 := ⟨k - 2, by omega⟩
    have h1 : (0 : Int) < l.length := by omega
    simp only [spec_l04Parcels.f, spec_l04Parcels.l0, spec_l04Parcels.j1, h1, hli, if_true, decide_false, Bool.false_eq_true, if_false, okPs, hl, Bool.false_and]
theorem parcelsOk_from (l : List S60) (h : l.length ≤ 1048576) : From (fun k => impl_parcelsOk.f k l) (okPs l) := by
  by_cases hl : l.length ≤ 64
  · have hli : (l.length : Int) ≤ 64 := by omega
    obtain ⟨K, hK⟩ := test_loopB (fun k i => (impl_Parcel_badParcel_162.l0 k l l.length i).bind fun t => some (!(decide (t ≥ 0)))) l.length 0 (fun j => okP (l.getD j z60)) true (fun k i _ h0 h1 => by
      simp only [impl_Parcel_badParcel_162.l0, impl_badParcel.f, h0, h1, if_true, rd_T60, parcelOk_some, Option.bind_some, wsucc h0 (by omega)]
      rcases Bool.eq_false_or_eq_true (okP (l.getD i.toNat z60)) with c | c <;> simp [c, h0, -List.getD_eq_getElem?_getD]) (fun k _ => by
      simp only [impl_Parcel_badParcel_162.l0, Int.lt_irrefl, if_false, Option.bind_some]
      rfl)
    refine ⟨K, fun k hk => ?_⟩
    have := hK k hk
    simp only [impl_parcelsOk.f, impl_Parcel_badParcel_163.f, impl_Parcel_badParcel_162.f, hli, if_true]
    cases he : impl_Parcel_badParcel_162.l0 k l l.length 0 with
    | none => rw [he] at this; cases this
    | some t =>
      rw [he] at this
      simpa [okPs, hl] using this
  · have hli : ¬ (l.length : Int) ≤ 64 := by omega
    exact ⟨0, fun k hk => by simp only [impl_parcelsOk.f, hli, if_false, okPs, hl, decide_false, Bool.false_and]⟩
def okB (b : S58) : Prop := b.f3.length ≤ 1048576
def boxB (m : Int) (b : S58) : Bool := decide ((b.f0.size : Int) = 16) && (decide (1 ≤ b.f1 ∧ b.f1 ≤ 1000) && (decide (0 ≤ b.f2 ∧ b.f2 ≤ 1000000000) && (okPs b.f3 && decide ((b.f3.length : Int) ≤ m))))
def okAt (m : Int) (l : List S58) (j : Nat) : Bool := boxB m (l.getD j z58) && (decide (j = 0) || Op.bytesLess (l.getD (j - 1) z58).f0.toList (l.getD j z58).f0.toList)
def okPost (m : Int) (l : List S58) : Bool := decide (1 ≤ m ∧ m ≤ 64) && (decide (l.length ≤ 32) && (List.range l.length).all (okAt m l))
theorem prev_at {i : Int} (h0 : 0 ≤ i) (h1 : i ≤ 4611686018427387904) (hp : i > 0) : wrap64 (i - 1) = i - 1 ∧ (i - 1).toNat = i.toNat - 1 ∧ 0 ≤ i - 1 := ⟨wpred h0 h1, by omega, by omega⟩
theorem l04Is_from (m : Int) (l : List S58) (h : l.length ≤ 1048576) (hb : ∀ y ∈ l, okB y) : From (fun k => spec_l04Is.f k m l) (okPost m l) := by
  have j0 : ∀ k, spec_l04Is.j0 (k + 1) true m l = some false := fun k => by simp only [spec_l04Is.j0, if_true]
  by_cases hm : 1 ≤ m ∧ m ≤ 64
  · by_cases hl : l.length ≤ 32
    · have hli : ¬ (l.length : Int) > 32 := by omega
      obtain ⟨K, hK⟩ := from_all (g := fun k j => spec_l04Parcels.f k (l.getD j z58).f3) (fun j => okPs (l.getD j z58).f3) l.length fun j hj => l04Parcels_from _ (hb _ (getD_mem _ hj))
      obtain ⟨L, hL⟩ := test_loopC (fun k i => spec_l04Is.l0 k i m l) 2 l.length K (okAt m l) true (fun k i hk h0 h1 => by
        have w := hK (k + 1) (by omega) i.toNat (by omega)
        have hlim : ((l.getD i.toNat z58).f3.length : Int) ≤ m ↔ ¬ ((l.getD i.toNat z58).f3.length : Int) > m := by omega
        simp only [spec_l04Is.l0, spec_l04Is.j2, spec_l02Id.f, in_eq, in_some, h0, h1, if_true, rd_T58, Option.bind_some, w, wsucc h0 (by omega), okAt, boxB, hlim]
        obtain ⟨b, hbx⟩ : ∃ b, l.getD i.toNat z58 = b := ⟨_, rfl⟩
        simp only [hbx]
        by_cases c0 : (b.f0.size : Int) = 16
        · by_cases c1 : 1 ≤ b.f1 ∧ b.f1 ≤ 1000
          · by_cases c2 : 0 ≤ b.f2 ∧ b.f2 ≤ 1000000000
            · rcases Bool.eq_false_or_eq_true (okPs b.f3) with c3 | c3
              · by_cases c4 : (b.f3.length : Int) > m
                · simp [c0, c1, c2, c3, c4]
                · by_cases c5 : i > 0
                  · obtain ⟨p1, p2, p3⟩ := prev_at h0 (by omega) c5
                    have p4 : i - 1 < l.length := by omega
                    have p5 : ¬ i.toNat = 0 := by omega
                    simp only [c0, c1, c2, c3, c4, c5, p1, p2, p3, p4, p5, if_true, if_false, decide_true, decide_false, and_self, not_false_eq_true, Bool.true_and, Bool.and_true, Bool.false_or, Bool.not_true, Bool.false_eq_true]
                  · have p5 : i.toNat = 0 := by omega
                    simp only [c0, c1, c2, c3, c4, c5, p5, if_true, if_false, decide_true, decide_false, and_self, not_false_eq_true, Bool.true_and, Bool.and_true, Bool.true_or, Bool.not_true, Bool.false_eq_true]
              · simp [c0, c1, c2, c3]
            · simp [c0, c1, c2]
          · simp [c0, c1]
        · simp [c0]) (fun k _ => by simp only [spec_l04Is.l0, Int.lt_irrefl, if_false])
      refine ⟨L + 1, fun k hk => ?_⟩
      obtain ⟨k, rfl⟩ : ∃ n, k = n + 1 := ⟨k - 1, by omega⟩
      simp only [spec_l04Is.f, in_eq, in_some, hm, Option.bind_some, hli, decide_true, decide_false, if_true, spec_l04Is.j0, Bool.false_eq_true, if_false, and_self, hL k (by omega), okPost, hl, Bool.true_and, Bool.and_true]
    · have hli : (l.length : Int) > 32 := by omega
      refine ⟨1, fun k hk => ?_⟩
      obtain ⟨k, rfl⟩ : ∃ n, k = n + 1 := ⟨k - 1, by omega⟩
      simp only [spec_l04Is.f, in_eq, in_some, hm, Option.bind_some, hli, decide_true, if_true, j0, okPost, hl, and_self, decide_false, Bool.true_and, Bool.false_and]
  · refine ⟨1, fun k hk => ?_⟩
    obtain ⟨k, rfl⟩ : ∃ n, k = n + 1 := ⟨k - 1, by omega⟩
    simp only [spec_l04Is.f, in_eq, in_some, hm, Option.bind_some, decide_false, Bool.false_eq_true, if_false, j0, okPost, Bool.false_and]
theorem ValidPost_from (m : Int) (l : List S58) (h : l.length ≤ 1048576) (hb : ∀ y ∈ l, okB y) : From (fun k => impl_ValidPost.f k m l) (okPost m l) := by
  have j0 : ∀ k, impl_ValidPost.j0 (k + 1) true m l = some false := fun k => by simp only [impl_ValidPost.j0, if_true]
  by_cases hm : 1 ≤ m ∧ m ≤ 64
  · by_cases hl : l.length ≤ 32
    · have hli : ¬ (l.length : Int) > 32 := by omega
      obtain ⟨K, hK⟩ := from_all (g := fun k j => impl_parcelsOk.f k (l.getD j z58).f3) (fun j => okPs (l.getD j z58).f3) l.length fun j hj => parcelsOk_from _ (hb _ (getD_mem _ hj))
      obtain ⟨L, hL⟩ := test_loopC (fun k i => impl_ValidPost.l0 k l l.length i m l) 2 l.length K (okAt m l) true (fun k i hk h0 h1 => by
        have w := hK (k + 1) (by omega) i.toNat (by omega)
        have hlim : ((l.getD i.toNat z58).f3.length : Int) ≤ m ↔ ¬ ((l.getD i.toNat z58).f3.length : Int) > m := by omega
        simp only [impl_ValidPost.l0, impl_ValidPost.j2, impl_isMember.f, impl_IsToken.f, in_some, h0, h1, if_true, rd_T58, Option.bind_some, w, wsucc h0 (by omega), okAt, boxB, hlim]
        obtain ⟨b, hbx⟩ : ∃ b, l.getD i.toNat z58 = b := ⟨_, rfl⟩
        simp only [hbx]
        by_cases c0 : (b.f0.size : Int) = 16
        · by_cases c1 : 1 ≤ b.f1 ∧ b.f1 ≤ 1000
          · by_cases c2 : 0 ≤ b.f2 ∧ b.f2 ≤ 1000000000
            · by_cases c4 : (b.f3.length : Int) > m
              · simp [c0, c1, c2, c4]
              · rcases Bool.eq_false_or_eq_true (okPs b.f3) with c3 | c3
                · by_cases c5 : i > 0
                  · obtain ⟨p1, p2, p3⟩ := prev_at h0 (by omega) c5
                    have p4 : i - 1 < l.length := by omega
                    have p5 : ¬ i.toNat = 0 := by omega
                    simp only [c0, c1, c2, c3, c4, c5, p1, p2, p3, p4, p5, if_true, if_false, decide_true, decide_false, and_self, not_false_eq_true, Bool.true_and, Bool.and_true, Bool.false_or, Bool.not_true, Bool.false_eq_true, beq_self_eq_true]
                  · have p5 : i.toNat = 0 := by omega
                    simp only [c0, c1, c2, c3, c4, c5, p5, if_true, if_false, decide_true, decide_false, and_self, not_false_eq_true, Bool.true_and, Bool.and_true, Bool.true_or, Bool.not_true, Bool.false_eq_true, beq_self_eq_true]
                · simp [c0, c1, c2, c3, c4]
            · simp [c0, c1, c2]
          · simp [c0, c1]
        · simp [c0]) (fun k _ => by simp only [impl_ValidPost.l0, Int.lt_irrefl, if_false])
      refine ⟨L + 1, fun k hk => ?_⟩
      obtain ⟨k, rfl⟩ : ∃ n, k = n + 1 := ⟨k - 1, by omega⟩
      simp only [impl_ValidPost.f, in_some, hm, Option.bind_some, hli, decide_true, decide_false, if_true, impl_ValidPost.j0, Bool.false_eq_true, if_false, and_self, hL k (by omega), okPost, hl, Bool.true_and, Bool.and_true]
    · have hli : (l.length : Int) > 32 := by omega
      refine ⟨1, fun k hk => ?_⟩
      obtain ⟨k, rfl⟩ : ∃ n, k = n + 1 := ⟨k - 1, by omega⟩
      simp only [impl_ValidPost.f, in_some, hm, Option.bind_some, hli, decide_true, if_true, j0, okPost, hl, and_self, decide_false, Bool.true_and, Bool.false_and]
  · refine ⟨1, fun k hk => ?_⟩
    obtain ⟨k, rfl⟩ : ∃ n, k = n + 1 := ⟨k - 1, by omega⟩
    simp only [impl_ValidPost.f, in_some, hm, Option.bind_some, decide_false, Bool.false_eq_true, if_false, j0, okPost, Bool.false_and]
theorem gAt {α : Type} {l : List α} {i : Nat} {z : α} (h : i < l.length) : l.getD i z = l[i] := by rw [List.getD_eq_getElem?_getD, List.getElem?_eq_getElem h]; rfl
theorem app_loop {α β ρ : Type} (F : Nat → Int → List β → Option ρ) (l : List α) (z : α) (g : α → List β) (hg : ∀ x, (g x).length ≤ 1) (K : Nat) (r : ρ) (hl : l.length ≤ 1048576)
    (hstep : ∀ (k : Nat) (i : Int) (out : List β), K ≤ k → 0 ≤ i → i < l.length → out.length ≤ 1048576 → F (k + 1) i out = F k (i + 1) (out ++ g (l.getD i.toNat z)))
    (hend : ∀ (k : Nat), K ≤ k → F (k + 1) l.length (l.flatMap g) = some r) : From (fun k => F k 0 []) r := by
  have hlen : ∀ m : List α, (m.flatMap g).length ≤ m.length := by
    intro m
    induction m with
    | nil => simp
    | cons x m ih => have := hg x; simp only [List.flatMap_cons, List.length_append, List.length_cons]; omega
  have key : ∀ (n : Nat) (i : Nat), i + n = l.length → ∀ k, n + K < k → F k i ((l.take i).flatMap g) = some r := by
    intro n
    induction n with
    | zero =>
      intro i hi k hk
      obtain ⟨k, rfl⟩ : ∃ n, k = n + 1 := ⟨k - 1, by omega⟩
      rw [List.take_of_length_le (by omega), show i = l.length by omega]
      exact hend k (by omega)
    | succ n ih =>
      intro i hi k hk
      obtain ⟨k, rfl⟩ : ∃ n, k = n + 1 := ⟨k - 1, by omega⟩
      have h1 : i < l.length := by omega
      have h2 := hlen (l.take i)
      rw [List.length_take] at h2
      rw [hstep k i _ (by omega) (by omega) (by omega) (by omega)]
      have := ih (i + 1) (by omega) k (by omega)
      rw [List.take_succ_eq_append_getElem h1, List.flatMap_append] at this
      rw [Int.toNat_natCast, gAt h1]
      simpa using this
  exact ⟨l.length + K + 1, fun k hk => by have := key l.length 0 (by omega) k (by omega); simpa using this⟩
theorem flat_one {α : Type} (l : List α) : l.flatMap (fun x => [x]) = l := by
  induction l with
  | nil => rfl
  | cons x l ih => simp [List.flatMap_cons, ih]
theorem l04Copy_from (m : Int) (l : List S58) (h : l.length ≤ 1048576) (hb : ∀ y ∈ l, okB y) : From (fun k => spec_l04Copy.f k m l) (m, l) := by
  refine app_loop (fun k i out => spec_l04Copy.l0 k i m l m out) l z58 (fun x => [x]) (fun _ => Nat.le_refl _) 0 (m, l) h (fun k i out _ h0 h1 h2 => ?_) (fun k _ => ?_)
  · have hin : i.toNat < l.length := by omega
    have hok : (l.getD i.toNat z58).f3.length ≤ 1048576 := hb _ (getD_mem _ hin)
    simp only [spec_l04Copy.l0, h0, h1, if_true, Option.bind_some, rd_T58, wsucc h0 (by omega), List.nil_append, List.length_nil]
    rw [if_pos (by omega), if_pos (by omega)]
  · have hi : ¬ (l.length : Int) < (l.length : Int) := by omega
    simp only [spec_l04Copy.l0, hi, if_false, flat_one]
theorem clonePost_from (m : Int) (l : List S58) (h : l.length ≤ 1048576) (hb : ∀ y ∈ l, okB y) : From (fun k => impl_clonePost.f k m l) (m, l) := by
  refine app_loop (fun k i out => impl_clonePost.l0 k l (l.length : Int) i m out) l z58 (fun x => [x]) (fun _ => Nat.le_refl _) 0 (m, l) h (fun k i out _ h0 h1 h2 => ?_) (fun k _ => ?_)
  · have hin : i.toNat < l.length := by omega
    have hok : (l.getD i.toNat z58).f3.length ≤ 1048576 := hb _ (getD_mem _ hin)
    have hc : slices_CloneP.f (rd_T58 l i).f3 = some (rd_T58 l i).f3 := if_pos (by show (l.getD i.toNat z58).f3.length * 16 ≤ _; omega)
    simp only [impl_clonePost.l0, h0, h1, if_true, hc, Option.bind_some, wsucc h0 (by omega)]
    rw [if_pos (by omega)]
    rfl
  · have hi : ¬ (l.length : Int) < (l.length : Int) := by omega
    simp only [impl_clonePost.l0, hi, if_false, flat_one]
theorem and255 (y : Int) (h0 : 0 ≤ y) (h1 : y < 18446744073709551616) : 0 ≤ Go.bits .and .u64 y 255 ∧ Go.bits .and .u64 y 255 ≤ 255 := by
  rw [u64_and y 255 h0 h1 (by omega) (by omega)]
  have := @Nat.and_le_right y.toNat (255 : Int).toNat
  have h : (255 : Int).toNat = 255 := rfl
  rw [h] at this ⊢
  omega
theorem shift_range (z : Int) : 0 ≤ IntKind.u64.wrap z / 1099511627776 ∧ IntKind.u64.wrap z / 1099511627776 < 18446744073709551616 := by
  have h : 0 ≤ IntKind.u64.wrap z ∧ IntKind.u64.wrap z < 18446744073709551616 := by
    unfold IntKind.wrap IntKind.bits IntKind.signed
    simp
    omega
  omega
theorem nxt_range (z : Int) : 0 ≤ wrap64 (Go.bits .and .u64 (IntKind.u64.wrap z / 1099511627776) 255) ∧ wrap64 (Go.bits .and .u64 (IntKind.u64.wrap z / 1099511627776) 255) ≤ 255 := by
  obtain ⟨q0, q1⟩ := shift_range z
  obtain ⟨a0, a1⟩ := and255 _ q0 q1
  rw [w64 (by omega) (by omega)]
  exact ⟨a0, a1⟩
def bytesOk (l : List Int) : Prop := ∀ x ∈ l, 0 ≤ x ∧ x ≤ 255
theorem bytes_of_wf {l : List Int} (h : ∀ x ∈ l, (Lit.int .u8 x).wf = true) : bytesOk l := fun x hx => by
  have := h x hx
  simp only [Lit.wf, Bool.and_eq_true, decide_eq_true_eq] at this
  have h1 : IntKind.u8.min = 0 := by decide
  have h2 : IntKind.u8.max = 255 := by decide
  omega
theorem rd_ok {l : List Int} (h : bytesOk l) (i : Int) (h0 : 0 ≤ i) (h1 : i < l.length) : 0 ≤ rd l i ∧ rd l i ≤ 255 := by
  unfold rd
  exact h _ (getD_mem 0 (by omega))
theorem next_from {l : List Int} (h : bytesOk l) (p s : Int) (h0 : 0 ≤ p) (h1 : p ≤ 1000000) : ∃ r s', spec_l00Src_next.f l p s = some (r, p + 1, s') ∧ 0 ≤ r ∧ r ≤ 255 := by
  have hw : wrap64 (p + 1) = p + 1 := wsucc h0 (by omega)
  unfold spec_l00Src_next.f
  rw [hw]
  by_cases c : p < (l.length : Int)
  · have hr := rd_ok h p h0 c
    have hr' : wrap64 (rd l p) = rd l p := w64 (by omega) (by omega)
    rw [if_pos c, if_pos h0, if_pos (by omega), hr']
    exact ⟨_, _, rfl, hr.1, hr.2⟩
  · rw [if_neg c, if_neg (by omega)]
    exact ⟨_, _, rfl, (nxt_range _).1, (nxt_range _).2⟩
theorem pick_from {l : List Int} (h : bytesOk l) (p s n : Int) (h0 : 0 ≤ p) (h1 : p ≤ 999999) (hn : 1 < n) : ∃ r p' s', spec_l00Src_pick.f l p s n = some (r, p', s') ∧ 0 ≤ r ∧ r < n ∧ p ≤ p' ∧ p' ≤ p + 2 := by
  obtain ⟨r, s1, e1, a1, a2⟩ := next_from h p s h0 (by omega)
  obtain ⟨r2, s2, e2, b1, b2⟩ := next_from h (p + 1) s1 (by omega) (by omega)
  unfold spec_l00Src_pick.f
  rw [if_neg (by omega), e1]
  simp only [Option.bind_some]
  rw [e2]
  simp only [Option.bind_some]
  by_cases c : n > 200
  · rw [if_pos c, if_neg (by omega)]
    refine ⟨_, _, _, rfl, ?_, ?_, by omega, by omega⟩
    · rw [w64 (x := r * 256) (by omega) (by omega), w64 (by omega) (by omega)]; exact Int.tmod_nonneg _ (by omega)
    · exact Int.tmod_lt_of_pos _ (by omega)
  · rw [if_neg c, if_neg (by omega)]
    exact ⟨_, _, _, rfl, Int.tmod_nonneg _ a1, Int.tmod_lt_of_pos _ (by omega), by omega, by omega⟩
theorem from_pick {l : List Int} (h : bytesOk l) (n : Int) (hn : 1 < n) (p s : Int) (h0 : 0 ≤ p) (h1 : p ≤ 999999) : ∃ r p' s', spec_l00Src_pick.f l p s n = some (r, p', s') ∧ 0 ≤ r ∧ r < n ∧ 0 ≤ p' ∧ p' ≤ p + 2 := by
  obtain ⟨r, p', s', e, a, b, c, d⟩ := pick_from h p s n h0 h1 hn
  exact ⟨r, p', s', e, a, b, by omega, d⟩
abbrev B1 := S58
abbrev P1 := S60
theorem Index_rounds (l : List Int) (x : Int) (h : l.length ≤ 1048576) : ∀ (m k : Nat) (i : Int), 0 ≤ i → i ≤ l.length → (l.length : Int) - i = m → m < k → ∃ r, slices_Index_int64_int64.l0 k l x l.length i = some r ∧ decide (r ≥ 0) = ((l.drop i.toNat).any fun y => decide (x = y)) := by
  intro m
  induction m with
  | zero =>
    intro k i h0 h1 hm hk
    obtain ⟨k, rfl⟩ : ∃ m, k = m + 1 := ⟨k - 1, by omega⟩
    have hi : ¬ i < (l.length : Int) := by omega
    refine ⟨-1, by simp only [slices_Index_int64_int64.l0, hi, if_false], ?_⟩
    rw [List.drop_of_length_le (by omega)]; rfl
  | succ m ih =>
    intro k i h0 h1 hm hk
    obtain ⟨k, rfl⟩ : ∃ m, k = m + 1 := ⟨k - 1, by omega⟩
    have hi : i < (l.length : Int) := by omega
    have hin : i.toNat < l.length := by omega
    have hx : l.getD i.toNat 0 = l[i.toNat] := by rw [List.getD_eq_getElem?_getD, List.getElem?_eq_getElem hin]; rfl
    rw [List.drop_eq_getElem_cons hin, List.any_cons]
    by_cases c : x = l[i.toNat]
    · refine ⟨i, by simp only [slices_Index_int64_int64.l0, hi, h0, if_true, rd, hx, if_pos c], ?_⟩
      rw [decide_eq_true c, Bool.true_or]; exact decide_eq_true h0
    · obtain ⟨r, e, er⟩ := ih k (i + 1) (by omega) (by omega) (by omega) (by omega)
      refine ⟨r, ?_, ?_⟩
      · simp only [slices_Index_int64_int64.l0, hi, h0, if_true, rd, hx, if_neg c, wsucc h0 (by omega)]
        exact e
      · rw [er, decide_eq_false c, Bool.false_or, show (i + 1).toNat = i.toNat + 1 by omega]
theorem Contains_is (l : List Int) (x : Int) (h : l.length ≤ 1048576) (k : Nat) (hk : l.length < k) : slices_Contains_int64_int64.f k l x = some (hasI l x) := by
  obtain ⟨r, e, er⟩ := Index_rounds l x h l.length k 0 (by omega) (by omega) (by omega) hk
  simp only [slices_Contains_int64_int64.f, slices_Index_int64_int64.f, e, Option.bind_some, er]
  rfl
theorem okPost_small {lim : Int} {bs : List B1} (h : okPost lim bs = true) : (1 ≤ lim ∧ lim ≤ 64) ∧ bs.length ≤ 32 ∧ ∀ b ∈ bs, b.f3.length ≤ 64 := by
  unfold okPost at h
  simp only [Bool.and_eq_true, decide_eq_true_eq, List.all_eq_true] at h
  refine ⟨h.1, h.2.1, fun b hb => ?_⟩
  obtain ⟨j, hj, e⟩ := List.getElem_of_mem hb
  have ha := h.2.2 j (List.mem_range.2 hj)
  unfold okAt boxB at ha
  simp only [Bool.and_eq_true, decide_eq_true_eq, okPs] at ha
  rw [gAt hj, e] at ha
  exact ha.1.2.2.2.1.1
theorem okPs_small {ps : List P1} (h : okPs ps = true) : ps.length ≤ 64 := by
  unfold okPs at h
  simp only [Bool.and_eq_true, decide_eq_true_eq] at h
  exact h.1
theorem okB_small {bs : List B1} (h : ∀ b ∈ bs, b.f3.length ≤ 64) : ∀ b ∈ bs, okB b := fun b hb => by
  show b.f3.length ≤ 1048576
  have := h b hb
  omega
/-- What both return. -/
def saOf (lim : Int) (bs : List B1) (ms : List Int) (ps : List P1) : Int × List B1 × Int × Bool :=
  if okPost lim bs = true then (if risesB ms = true then (if okPs ps = true then (if okPost lim (sentJ lim.toNat (hasI ms) ps bs ps.length) = true then (lim, sentJ lim.toNat (hasI ms) ps bs ps.length, ((ps.length * cntA (hasI ms) bs : Nat) : Int), true) else (0, [], 0, false)) else (0, [], 0, false)) else (0, [], 0, false)) else (0, [], 0, false)
theorem impl_from (lim : Int) (bs : List B1) (ms : List Int) (ps : List P1) (hl : bs.length ≤ 1048576) (hb : ∀ y ∈ bs, okB y) (hm : ms.length ≤ 1048576) (hp : ps.length ≤ 1048576) : From (fun k => impl_SendAll.f k lim bs ms ps) (saOf lim bs ms ps) := by
  obtain ⟨K1, e1⟩ := ValidPost_from lim bs hl hb
  obtain ⟨K2, e2⟩ := rising_from ms (by omega)
  obtain ⟨K3, e3⟩ := parcelsOk_from ps hp
  obtain ⟨K4, e4⟩ := clonePost_from lim bs hl hb
  dsimp only at e1 e2 e3 e4
  by_cases h1 : okPost lim bs = true
  case neg =>
    refine ⟨K1, fun k hk => ?_⟩
    simp only [impl_SendAll.f, changedF, saOf, e1 k hk, Option.bind_some, if_neg h1]
    simp only [outSA, Bool.false_eq_true, if_false]
  obtain ⟨s1, s2, s3⟩ := okPost_small h1
  have hs := sentJ_f3 lim.toNat (hasI ms) ps bs ps.length (by omega) s3
  obtain ⟨K5, e5⟩ := ValidPost_from lim (sentJ lim.toNat (hasI ms) ps bs ps.length) (by rw [sentJ_len]; exact hl) (okB_small hs)
  dsimp only at e5
  refine ⟨K1 + K2 + K3 + K4 + K5 + ms.length + 1, fun k hk => ?_⟩
  have E1 := e1 k (by omega)
  have E2 := e2 k (by omega)
  have E3 := e3 k (by omega)
  have E4 := e4 k (by omega)
  have E5 := e5 k (by omega)
  simp only [impl_SendAll.f, changedF, doSA, impl_IsMembers.f, saOf, E1, E2, E4, Option.bind_some, if_pos h1]
  by_cases h2 : risesB ms = true
  case neg =>
    simp only [if_neg h2, Option.bind_some, Bool.false_eq_true, if_false]
    simp only [outSA, Bool.false_eq_true, if_false]
  simp only [if_pos h2, E3, Option.bind_some]
  by_cases h3 : okPs ps = true
  case neg =>
    simp only [if_neg h3, Option.bind_some, Bool.false_eq_true, if_false]
    simp only [outSA, Bool.false_eq_true, if_false]
  have hg : guardS k ms ps lim bs := ⟨s1, okPs_small h3, s2, s3, fun b _ => Contains_is ms b.f1 hm k (by omega)⟩
  simp only [if_pos h3, if_pos hg, Option.bind_some, if_true, E5]
  by_cases h4 : okPost lim (sentJ lim.toNat (hasI ms) ps bs ps.length) = true
  · simp only [if_pos h4, Option.bind_some, outSA, if_true, sentJ_cnt]
  · simp only [if_neg h4, Option.bind_some, outSA, Bool.false_eq_true, if_false]
theorem saOf_ok (lim : Int) (bs : List B1) (ms : List Int) (ps : List P1) : (saOf lim bs ms ps).2.1.length ≤ 1048576 ∧ ∀ y ∈ (saOf lim bs ms ps).2.1, okB y := by
  unfold saOf
  have hn : (([] : List B1)).length ≤ 1048576 ∧ ∀ y ∈ ([] : List B1), okB y := ⟨by simp, fun y hy => by cases hy⟩
  split
  · next h1 =>
    obtain ⟨s1, s2, s3⟩ := okPost_small h1
    split
    · split
      · split
        · exact ⟨by show (sentJ _ _ _ _ _).length ≤ _; rw [sentJ_len]; omega, okB_small (sentJ_f3 lim.toNat (hasI ms) ps bs ps.length (by omega) s3)⟩
        · exact hn
      · exact hn
    · exact hn
  · exact hn
def sameParcel (x y : S60) : Bool := x.f0 == y.f0 && x.f1 == y.f1
theorem impl_Parcel_64_from (l m : List S60) (h : l.length ≤ 1048576) : From (fun k => impl_Parcel_64.f k l m) (decide (l.length = m.length) && (List.range l.length).all fun j => sameParcel (l.getD j z60) (m.getD j z60)) := by
  by_cases hl : l.length = m.length
  · obtain ⟨K, hK⟩ := test_loopB (fun k i => impl_Parcel_64.l0 k l m l.length i) l.length 0 (fun j => sameParcel (l.getD j z60) (m.getD j z60)) true (fun k i _ h0 h1 => by
      have h2 : i < (m.length : Int) := by omega
      simp only [impl_Parcel_64.l0, h0, h1, h2, if_true, wsucc h0 (by omega), sameParcel, rd_T60]
      by_cases c0 : (l.getD i.toNat z60).f0 = (m.getD i.toNat z60).f0 <;> by_cases c1 : (l.getD i.toNat z60).f1 = (m.getD i.toNat z60).f1 <;> simp [c0, c1, -List.getD_eq_getElem?_getD]) (fun k _ => by simp only [impl_Parcel_64.l0, Int.lt_irrefl, if_false])
    refine ⟨K, fun k hk => ?_⟩
    have h1 : (l.length : Int) = (m.length : Int) := by omega
    simp only [impl_Parcel_64.f, h1, if_true]
    rw [← h1, hK k hk, hl]
    simp only [decide_true, Bool.true_and, Bool.and_true]
  · refine ⟨0, fun k _ => ?_⟩
    have h1 : ¬ (l.length : Int) = (m.length : Int) := by omega
    simp only [impl_Parcel_64.f, h1, if_false, hl, decide_false, Bool.false_and]
theorem text_pick {l : List Int} (h : bytesOk l) (ts : List ByteArray) (hn : 1 < ts.length) (p s : Int) (h0 : 0 ≤ p) (h1 : p ≤ 999999) : ∃ t p' s', spec_l00Src_text.f l p s ts = some (t, p', s') ∧ t ∈ ts ∧ 0 ≤ p' ∧ p' ≤ p + 2 := by
  obtain ⟨r, p', s', e, a, b, c, d⟩ := from_pick h (ts.length : Int) (by omega) p s h0 h1
  refine ⟨rdOf ByteArray.empty ts r, p', s', ?_, ?_, c, d⟩
  · unfold spec_l00Src_text.f
    rw [e]
    simp only [Option.bind_some]
    rw [if_pos a, if_pos b]
  · unfold rdOf
    exact getD_mem _ (by omega)
theorem r8At_from {c : List Int} (h : bytesOk c) (i n : Int) (h0 : 0 ≤ i) (hn : 1 < n) : ∃ r, laws_r8At.f c i n = some r ∧ 0 ≤ r ∧ r < n := by
  unfold laws_r8At.f
  rw [if_neg (by omega)]
  by_cases c1 : i ≥ (c.length : Int)
  · rw [if_pos c1]; exact ⟨0, rfl, by omega, by omega⟩
  · have hr := rd_ok h i h0 (by omega)
    rw [if_neg c1, if_pos h0, if_pos (by omega), if_neg (by omega), w64 (by omega) (by omega)]
    exact ⟨_, rfl, Int.tmod_nonneg _ hr.1, Int.tmod_lt_of_pos _ (by omega)⟩
theorem draw_parcels {c : List Int} (h : bytesOk c) : ∀ (d : Nat) (out : List P1) (p s : Int), 0 ≤ p → p + 4 * d ≤ 999 → d ≤ 11 → (∀ x ∈ out, okP x = true) → out.length + d ≤ 11 →
    ∃ l, (∀ k, d + 1 ≤ k → spec_R8Parcels.l0 k (d : Int) out c p s = some l) ∧ (∀ x ∈ l, okP x = true) ∧ l.length ≤ 11
  | 0, out, p, s, h0, h1, hd, hx, hl => ⟨out, fun k hk => by
      obtain ⟨k, rfl⟩ : ∃ n, k = n + 1 := ⟨k - 1, by omega⟩
      rw [spec_R8Parcels.l0, if_neg (by omega)], hx, by omega⟩
  | d + 1, out, p, s, h0, h1, hd, hx, hl => by
    have hw : wrap64 (((d + 1 : Nat) : Int) - 1) = (d : Int) := by rw [w64 (by omega) (by omega)]; omega
    obtain ⟨r, p1, s1, e1, a1, b1, c1, d1⟩ := from_pick h 4 (by omega) p s h0 (by omega)
    obtain ⟨q, p2, s2, e2, a2, b2, c2, d2⟩ := from_pick h 50 (by omega) p1 s1 c1 (by omega)
    obtain ⟨l, e, r1, r2⟩ := draw_parcels h d (out ++ [(⟨1 + r, 1 + q⟩ : P1)]) p2 s2 c2 (by omega) (by omega) (fun x hx' => by
      rcases List.mem_append.1 hx' with hx' | hx'
      · exact hx x hx'
      · rw [List.mem_singleton] at hx'; subst hx'
        unfold okP
        rw [Bool.and_eq_true, decide_eq_true_eq, decide_eq_true_eq]
        exact ⟨⟨by show 1 ≤ 1 + r; omega, by show 1 + r ≤ 1000; omega⟩, ⟨by show 1 ≤ 1 + q; omega, by show 1 + q ≤ 1000000; omega⟩⟩) (by simp; omega)
    refine ⟨l, fun k hk => ?_, r1, r2⟩
    obtain ⟨k, rfl⟩ : ∃ n, k = n + 1 := ⟨k - 1, by omega⟩
    rw [spec_R8Parcels.l0, if_pos (by omega), e1]
    simp only [Option.bind_some]
    rw [e2]
    simp only [Option.bind_some]
    rw [if_pos (by omega), hw, w64 (x := 1 + r) (by omega) (by omega), w64 (x := 1 + q) (by omega) (by omega)]
    exact e k (by omega)
/-! ### What a post has to be -/
theorem okPs_iff (l : List P1) : okPs l = true ↔ l.length ≤ 64 ∧ ∀ x ∈ l, okP x = true := by
  unfold okPs
  rw [Bool.and_eq_true, decide_eq_true_eq, List.all_eq_true]
  refine and_congr Iff.rfl ⟨fun h x hx => ?_, fun h j hj => h _ (getD_mem _ (List.mem_range.1 hj))⟩
  obtain ⟨j, hj, rfl⟩ := List.mem_iff_getElem.1 hx
  have := h j (List.mem_range.2 hj)
  rwa [gAt hj] at this
theorem okPost_iff (m : Int) (l : List B1) : okPost m l = true ↔ (1 ≤ m ∧ m ≤ 64) ∧ l.length ≤ 32 ∧ ∀ j, j < l.length → okAt m l j = true := by
  unfold okPost
  simp only [Bool.and_eq_true, decide_eq_true_eq, List.all_eq_true, List.mem_range]
theorem okAt_iff (m : Int) (l : List B1) (j : Nat) : okAt m l j = true ↔ boxB m (l.getD j z58) = true ∧ (j = 0 ∨ Op.bytesLess (l.getD (j - 1) z58).f0.toList (l.getD j z58).f0.toList = true) := by
  unfold okAt
  simp only [Bool.and_eq_true, Bool.or_eq_true, decide_eq_true_eq]
theorem boxB_iff (m : Int) (b : B1) : boxB m b = true ↔ (b.f0.size : Int) = 16 ∧ (1 ≤ b.f1 ∧ b.f1 ≤ 1000) ∧ (0 ≤ b.f2 ∧ b.f2 ≤ 1000000000) ∧ okPs b.f3 = true ∧ (b.f3.length : Int) ≤ m := by
  unfold boxB
  simp only [Bool.and_eq_true, decide_eq_true_eq]
theorem okPost_like {m : Int} {l l' : List B1} (h : okPost m l = true) (hl : l'.length = l.length) (hj : ∀ j, j < l.length → (l'.getD j z58).f0 = (l.getD j z58).f0 ∧ boxB m (l'.getD j z58) = true) : okPost m l' = true := by
  rw [okPost_iff] at h ⊢
  refine ⟨h.1, by omega, fun j hj' => ?_⟩
  have ha := h.2.2 j (by omega)
  rw [okAt_iff] at ha ⊢
  obtain ⟨e, hb⟩ := hj j (by omega)
  refine ⟨hb, ?_⟩
  rcases ha.2 with h0 | h0
  · exact .inl h0
  · right
    rw [e, (hj (j - 1) (by omega)).1]
    exact h0
theorem okPost_box {m : Int} {l : List B1} (h : okPost m l = true) {j : Nat} (hj : j < l.length) : boxB m (l.getD j z58) = true := ((okAt_iff _ _ _).1 (((okPost_iff _ _).1 h).2.2 j hj)).1
/-! ### A box is added -/
theorem insJ_mem (tok : ByteArray) (mem : Int) : ∀ (l : List B1) (s : Bool × List B1), ∀ b ∈ (l.foldl (insStep tok mem) s).2, b ∈ s.2 ∨ b ∈ l ∨ b = (⟨tok, mem, 0, []⟩ : B1)
  | [], s, b, hb => .inl hb
  | x :: l, s, b, hb => by
    rcases insJ_mem tok mem l (insStep tok mem s x) b hb with h | h | h
    · unfold insStep at h
      split at h
      · simp only [List.mem_append, List.mem_singleton] at h
        rcases h with (h | h) | h
        · exact .inl h
        · exact .inr (.inr h)
        · exact .inr (.inl (by rw [h]; exact List.mem_cons_self))
      · simp only [List.mem_append, List.mem_singleton] at h
        rcases h with h | h
        · exact .inl h
        · exact .inr (.inl (by rw [h]; exact List.mem_cons_self))
    · exact .inr (.inl (List.mem_cons_of_mem _ h))
    · exact .inr (.inr h)
theorem insB_mem (tok : ByteArray) (mem : Int) (l : List B1) : ∀ b ∈ insB tok mem l, b ∈ l ∨ b = (⟨tok, mem, 0, []⟩ : B1) := by
  have key : ∀ b ∈ (insJ tok mem l l.length).2, b ∈ l ∨ b = (⟨tok, mem, 0, []⟩ : B1) := by
    intro b hb
    unfold insJ at hb
    rw [List.take_length] at hb
    rcases insJ_mem tok mem l (false, []) b hb with h | h | h
    · cases h
    · exact .inl h
    · exact .inr h
  intro b hb
  unfold insB at hb
  split at hb
  · exact key b hb
  · rcases List.mem_append.1 hb with h | h
    · exact key b h
    · exact .inr (List.mem_singleton.1 h)
theorem insB_len (tok : ByteArray) (mem : Int) (l : List B1) : (insB tok mem l).length ≤ 2 * l.length + 1 := by
  have := insJ_len tok mem l l.length
  unfold insB
  split
  · omega
  · rw [List.length_append, List.length_singleton]; omega
theorem l04Find_from (lim : Int) (bs : List B1) (tok : ByteArray) (h : bs.length ≤ 1048576) : ∃ t, From (fun k => spec_l04Find.f k lim bs tok) t := by
  have key : ∀ (m i : Nat), i + m = bs.length → ∃ t, ∀ k, m < k → spec_l04Find.l0 k tok (i : Int) lim bs = some t := by
    intro m
    induction m with
    | zero =>
      intro i hi
      refine ⟨-1, fun k hk => ?_⟩
      obtain ⟨k, rfl⟩ : ∃ n, k = n + 1 := ⟨k - 1, by omega⟩
      rw [spec_l04Find.l0, if_neg (by omega)]
    | succ m ih =>
      intro i hi
      obtain ⟨t, e⟩ := ih (i + 1) (by omega)
      by_cases c : (rd_T58 bs (i : Int)).f0.toList = tok.toList
      · refine ⟨(i : Int), fun k hk => ?_⟩
        obtain ⟨k, rfl⟩ : ∃ n, k = n + 1 := ⟨k - 1, by omega⟩
        rw [spec_l04Find.l0, if_pos (by omega), if_pos (by omega), if_pos c]
      · refine ⟨t, fun k hk => ?_⟩
        obtain ⟨k, rfl⟩ : ∃ n, k = n + 1 := ⟨k - 1, by omega⟩
        rw [spec_l04Find.l0, if_pos (by omega), if_pos (by omega), if_neg c, wsucc (by omega) (by omega)]
        exact e k (by omega)
  obtain ⟨t, e⟩ := key bs.length 0 (by omega)
  exact ⟨t, bs.length + 1, fun k hk => e k (by omega)⟩
def bare (l : List B1) : Prop := ∀ b ∈ l, b.f3 = [] ∧ b.f2 = 0
theorem addF_from (lim : Int) (bs : List B1) (tok : ByteArray) (mem : Int) (h : okPost lim bs = true) (hb : bare bs) : ∃ a, From (fun k => addF k lim bs tok mem) a ∧ (a.2.2 = true → okPost lim a.2.1 = true ∧ bare a.2.1) := by
  obtain ⟨s1, s2, s3⟩ := okPost_small h
  have hb2 : bare (insB tok mem bs) := fun b hx => by
    rcases insB_mem tok mem bs b hx with hx | rfl
    · exact hb b hx
    · exact ⟨rfl, rfl⟩
  obtain ⟨K1, e1⟩ := l04Is_from lim bs (by omega) (okB_small s3)
  obtain ⟨t, K2, e2⟩ := l04Find_from lim bs tok (by omega)
  obtain ⟨K3, e3⟩ := l04Copy_from lim bs (by omega) (okB_small s3)
  obtain ⟨K4, e4⟩ := l04Is_from lim (insB tok mem bs) (by have := insB_len tok mem bs; omega) (fun b hx => by show b.f3.length ≤ _; rw [(hb2 b hx).1]; simp)
  dsimp only at e1 e2 e3 e4
  rw [h] at e1
  have hlen : bs.length ≤ 1000 := by omega
  by_cases ht : 0 ≤ t
  · exact ⟨(0, [], false), ⟨K1 + K2, fun k hk => by simp only [addF, e1 k (by omega), e2 k (by omega), Option.bind_some, if_true, if_pos ht]⟩, fun h => by cases h⟩
  · cases ho : okPost lim (insB tok mem bs) with
    | false =>
      rw [ho] at e4
      exact ⟨(0, [], false), ⟨K1 + K2 + K3 + K4, fun k hk => by simp only [addF, e1 k (by omega), e2 k (by omega), e3 k (by omega), e4 k (by omega), Option.bind_some, if_true, if_neg ht, hlen, Bool.false_eq_true, if_false]⟩, fun h => by cases h⟩
    | true =>
      rw [ho] at e4
      exact ⟨(lim, insB tok mem bs, true), ⟨K1 + K2 + K3 + K4, fun k hk => by simp only [addF, e1 k (by omega), e2 k (by omega), e3 k (by omega), e4 k (by omega), Option.bind_some, if_true, if_neg ht, hlen]⟩, fun _ => ⟨ho, hb2⟩⟩
theorem r8A_from {l : List Int} (h : bytesOk l) (lim : Int) : ∀ (d : Nat) (bs : List B1) (p s : Int), okPost lim bs = true → bare bs → 0 ≤ p → p + 4 * d ≤ 9999 → d ≤ 8 →
    ∃ r p' s' K0, (∀ K g, K0 ≤ K → d < g → r8A K g lim (d : Int) bs l p s = some (r, p', s')) ∧ okPost lim r = true ∧ bare r ∧ 0 ≤ p' ∧ p' ≤ p + 4 * d
  | 0, bs, p, s, ho, hb, h0, h1, hd => ⟨bs, p, s, 0, fun K g _ hg => by
      obtain ⟨g, rfl⟩ : ∃ n, g = n + 1 := ⟨g - 1, by omega⟩
      rw [r8A, if_neg (by omega)], ho, hb, h0, by omega⟩
  | d + 1, bs, p, s, ho, hb, h0, h1, hd => by
    have hw : wrap64 (((d + 1 : Nat) : Int) - 1) = (d : Int) := by rw [w64 (by omega) (by omega)]; omega
    obtain ⟨t, p1, s1, e1, _, a1, b1⟩ := text_pick h toks8 (by decide) p s h0 (by omega)
    obtain ⟨u, p2, s2, e2, u0, u1, a2, b2⟩ := from_pick h 4 (by omega) p1 s1 a1 (by omega)
    obtain ⟨a, ⟨K1, ea⟩, ha⟩ := addF_from lim bs t (wrap64 (1 + u)) ho hb
    have hn : okPost lim (if a.2.2 = true then a.2.1 else bs) = true ∧ bare (if a.2.2 = true then a.2.1 else bs) := by
      split
      · next hc => exact ha hc
      · exact ⟨ho, hb⟩
    obtain ⟨r, p', s', K0, e, r1, r2, r3, r4⟩ := r8A_from h lim d _ p2 s2 hn.1 hn.2 a2 (by omega) (by omega)
    refine ⟨r, p', s', K0 + K1, fun K g hK hg => ?_, r1, r2, r3, by omega⟩
    obtain ⟨g, rfl⟩ : ∃ n, g = n + 1 := ⟨g - 1, by omega⟩
    have ea' := ea K (by omega)
    dsimp only at ea'
    rw [r8A, if_pos (by omega), e1]
    simp only [Option.bind_some]
    rw [e2]
    simp only [Option.bind_some]
    rw [ea', hw]
    simp only [Option.bind_some]
    exact e K g (by omega) (by omega)
theorem okP_of {a b : Int} (h1 : 1 ≤ a ∧ a ≤ 1000) (h2 : 1 ≤ b ∧ b ≤ 1000000) : okP (⟨a, b⟩ : P1) = true := by
  unfold okP
  rw [Bool.and_eq_true, decide_eq_true_eq, decide_eq_true_eq]
  exact ⟨h1, h2⟩
theorem r8In_from {l : List Int} (h : bytesOk l) : ∀ (d : Nat) (held : List P1) (p s : Int), 0 ≤ p → p + 4 * d ≤ 9999 → d ≤ 100 → held.length + d ≤ 900 → (∀ x ∈ held, okP x = true) →
    ∃ r p' s', (∀ g, d < g → r8In g held (d : Int) l p s = some (r, p', s')) ∧ r.length = held.length + d ∧ (∀ x ∈ r, okP x = true) ∧ 0 ≤ p' ∧ p' ≤ p + 4 * d
  | 0, held, p, s, h0, h1, hd, hl, hx => ⟨held, p, s, fun g hg => by
      obtain ⟨g, rfl⟩ : ∃ n, g = n + 1 := ⟨g - 1, by omega⟩
      rw [r8In, if_neg (by omega)], rfl, hx, h0, by omega⟩
  | d + 1, held, p, s, h0, h1, hd, hl, hx => by
    have hw : wrap64 (((d + 1 : Nat) : Int) - 1) = (d : Int) := by rw [w64 (by omega) (by omega)]; omega
    obtain ⟨u, p1, s1, e1, u0, u1, a1, b1⟩ := from_pick h 4 (by omega) p s h0 (by omega)
    obtain ⟨v, p2, s2, e2, v0, v1, a2, b2⟩ := from_pick h 50 (by omega) p1 s1 a1 (by omega)
    obtain ⟨r, p', s', e, r1, r2, r3, r4⟩ := r8In_from h d (held ++ [(⟨1 + u, 1 + v⟩ : P1)]) p2 s2 a2 (by omega) (by omega) (by rw [List.length_append, List.length_singleton]; omega) (fun x hx' => by
      rcases List.mem_append.1 hx' with hx' | hx'
      · exact hx x hx'
      · rw [List.mem_singleton] at hx'; subst hx'
        exact okP_of (by omega) (by omega))
    refine ⟨r, p', s', fun g hg => ?_, by rw [r1, List.length_append, List.length_singleton]; omega, r2, r3, by omega⟩
    obtain ⟨g, rfl⟩ : ∃ n, g = n + 1 := ⟨g - 1, by omega⟩
    rw [r8In, if_pos (by omega), e1]
    simp only [Option.bind_some]
    rw [e2]
    simp only [Option.bind_some]
    rw [if_pos (by omega), hw, w64 (x := 1 + u) (by omega) (by omega), w64 (x := 1 + v) (by omega) (by omega)]
    exact e g (by omega)
theorem getD_set_ne {l : List B1} {i j : Nat} (x : B1) (h : j ≠ i) : (l.set i x).getD j z58 = l.getD j z58 := by
  rw [List.getD_eq_getElem?_getD, List.getElem?_set_ne (Ne.symm h), List.getD_eq_getElem?_getD]
theorem r8B_from {l : List Int} (h : bytesOk l) (lim : Int) (hl : 1 ≤ lim ∧ lim ≤ 5) : ∀ (m : Nat) (bs : List B1) (i : Nat) (p s : Int), i + m = bs.length → okPost lim bs = true → (∀ j, i ≤ j → j < bs.length → (bs.getD j z58).f3 = []) → (∀ b ∈ bs, b.f2 ≤ 2) → 0 ≤ p → p + 24 * m ≤ 9999 → m ≤ 32 →
    ∃ r p' s', (∀ K g, 6 ≤ K → m < g → r8B K g lim bs i l p s = some (r, p', s')) ∧ okPost lim r = true ∧ (∀ b ∈ r, b.f2 ≤ 2)
  | 0, bs, i, p, s, hi, ho, he, h2, h0, h1, hm => ⟨bs, p, s, fun K g _ hg => by
      obtain ⟨g, rfl⟩ : ∃ n, g = n + 1 := ⟨g - 1, by omega⟩
      rw [r8B, dif_neg (by omega)], ho, h2⟩
  | m + 1, bs, i, p, s, hi, ho, he, h2, h0, h1, hm => by
    have hin : i < bs.length := by omega
    have hf : bs[i].f3 = [] := by have := he i (Nat.le_refl _) hin; rwa [gAt hin] at this
    obtain ⟨n, p1, s1, e1, n0, n1, a1, b1⟩ := from_pick h (lim + 1) (by omega) p s h0 (by omega)
    obtain ⟨n, rfl⟩ : ∃ q : Nat, n = q := ⟨n.toNat, by omega⟩
    obtain ⟨hh, p2, s2, e2, c1, c2, a2, b2⟩ := r8In_from h n [] p1 s1 a1 (by omega) (by omega) (by rw [List.length_nil]; omega) (fun x hx => by cases hx)
    obtain ⟨q, p3, s3, e3, q0, q1, a3, b3⟩ := from_pick h 3 (by omega) p2 s2 a2 (by omega)
    rw [List.length_nil] at c1
    have hz := okPost_box ho hin
    rw [gAt hin, boxB_iff] at hz
    have hb' : boxB lim (⟨bs[i].f0, bs[i].f1, q, hh⟩ : B1) = true := (boxB_iff _ _).2 ⟨hz.1, hz.2.1, ⟨q0, by show q ≤ 1000000000; omega⟩, (okPs_iff _).2 ⟨by show hh.length ≤ 64; omega, c2⟩, by show (hh.length : Int) ≤ lim; omega⟩
    have ho' : okPost lim (bs.set i ⟨bs[i].f0, bs[i].f1, q, hh⟩) = true := okPost_like ho (List.length_set ..) (fun j hj => by
      by_cases c : j = i
      · subst c; rw [getD_set hj, gAt hj]; exact ⟨rfl, hb'⟩
      · rw [getD_set_ne _ c]; exact ⟨rfl, okPost_box ho hj⟩)
    obtain ⟨r, p', s', e, r1, r2⟩ := r8B_from h lim hl m (bs.set i ⟨bs[i].f0, bs[i].f1, q, hh⟩) (i + 1) p3 s3 (by rw [List.length_set]; omega) ho' (fun j hj hj2 => by
      rw [getD_set_ne _ (by omega)]; exact he j (by omega) (by rwa [List.length_set] at hj2)) (fun b hb => by
      rcases List.mem_or_eq_of_mem_set hb with hb | rfl
      · exact h2 b hb
      · show q ≤ 2; omega) a3 (by omega) (by omega)
    refine ⟨r, p', s', fun K g hK hg => ?_, r1, r2⟩
    obtain ⟨g, rfl⟩ : ∃ n, g = n + 1 := ⟨g - 1, by omega⟩
    have hwl : wrap64 (lim + 1) = lim + 1 := w64 (by omega) (by omega)
    rw [r8B, dif_pos hin, hwl, e1]
    simp only [Option.bind_some]
    rw [hf, e2 K (by omega)]
    simp only [Option.bind_some]
    rw [e3]
    simp only [Option.bind_some]
    exact e K g hK (by omega)
theorem R8Post_from {c : List Int} (h : bytesOk c) : ∃ lim bs, From (fun k => spec_R8Post.f k c) (lim, bs) ∧ okPost lim bs = true ∧ ∀ b ∈ bs, b.f2 ≤ 2 := by
  obtain ⟨u, p1, s1, e1, u0, u1, a1, b1⟩ := from_pick h 5 (by omega) 0 0 (by omega) (by omega)
  obtain ⟨v, p2, s2, e2, v0, v1, a2, b2⟩ := from_pick h 4 (by omega) p1 s1 a1 (by omega)
  obtain ⟨v, rfl⟩ : ∃ q : Nat, v = q := ⟨v.toNat, by omega⟩
  have hw1 : wrap64 (1 + u) = 1 + u := w64 (by omega) (by omega)
  have hw2 : wrap64 (1 + (v : Int)) = ((v + 1 : Nat) : Int) := by rw [w64 (by omega) (by omega)]; omega
  have hn : okPost (1 + u) [] = true := (okPost_iff _ _).2 ⟨by omega, Nat.zero_le _, fun j hj => by cases hj⟩
  obtain ⟨bs, p3, s3, K0, e3, r1, r2, a3, b3⟩ := r8A_from h (1 + u) (v + 1) [] p2 s2 hn (fun b hb => by cases hb) a2 (by omega) (by omega)
  have hlen := ((okPost_iff _ _).1 r1).2.1
  obtain ⟨fs, p4, s4, e4, q1, q2⟩ := r8B_from h (1 + u) (by omega) bs.length bs 0 p3 s3 (by omega) r1 (fun j _ hj => (r2 _ (getD_mem _ hj)).1) (fun b hb => by rw [(r2 b hb).2]; omega) a3 (by omega) hlen
  refine ⟨1 + u, fs, ⟨K0 + v + 60, fun k hk => ?_⟩, q1, q2⟩
  unfold spec_R8Post.f
  simp only [spec_l00From.f, Option.bind_some, e1, e2]
  rw [hw1, hw2, e3 k k (by omega) (by omega)]
  simp only [Option.bind_some]
  rw [if_pos (by omega), e4 k k (by omega) (by omega)]
  rfl
/-! ### A sending -/
theorem rd60_last (l : List P1) (p : P1) (q : Nat) (hq : q ≤ l.length) : rd_T60 ((l ++ [p]).drop q) ((((l ++ [p]).drop q).length : Int) - 1) = p := by
  have hl : ((l ++ [p]).drop q).length = l.length + 1 - q := by rw [List.length_drop, List.length_append, List.length_singleton]
  unfold rd_T60
  rw [hl, List.getD_eq_getElem?_getD, List.getElem?_drop, show q + (((l.length + 1 - q : Nat) : Int) - 1).toNat = l.length by omega, List.getElem?_append_right (Nat.le_refl _), Nat.sub_self]
  rfl
def heldIn (lim : Int) (has : Int → Bool) (ps : List P1) (j : Nat) (a b : B1) : Prop :=
  b.f0 = a.f0 ∧ b.f1 = a.f1 ∧ (b.f3.length : Int) + b.f2 = (a.f3.length : Int) + a.f2 + (if has a.f1 = true then (j : Int) else 0) ∧ a.f2 ≤ b.f2 ∧ (b.f3.length : Int) ≤ lim ∧ (∀ x ∈ b.f3, okP x = true) ∧ (has a.f1 = true → 0 < j → 0 < b.f3.length ∧ rd_T60 b.f3 ((b.f3.length : Int) - 1) = rd_T60 ps ((j : Int) - 1))
theorem held_step {lim : Int} (hl : 1 ≤ lim ∧ lim ≤ 64) {has : Int → Bool} {ps : List P1} {j : Nat} (hj : j < ps.length) (hj2 : j ≤ 64) (hp : okP ps[j] = true) {a b : B1} (ha : 0 ≤ a.f2 ∧ a.f2 ≤ 2 ∧ a.f3.length ≤ 64) (h : heldIn lim has ps j a b) : heldIn lim has ps (j + 1) a (sendB lim.toNat has ps[j] b) := by
  obtain ⟨h0, h1, h2, h3, h4, h5, h6⟩ := h
  have hlast : rd_T60 ps (((j + 1 : Nat) : Int) - 1) = ps[j] := by
    unfold rd_T60
    rw [show (((j + 1 : Nat) : Int) - 1).toNat = j by omega, gAt hj]
  unfold sendB
  by_cases hm : has b.f1 = true
  · have hm' : has a.f1 = true := by rw [← h1]; exact hm
    rw [if_pos hm'] at h2
    rw [if_pos hm]
    unfold fitB
    have hlen : (b.f3 ++ [ps[j]]).length = b.f3.length + 1 := by rw [List.length_append, List.length_singleton]
    have hall : ∀ x ∈ b.f3 ++ [ps[j]], okP x = true := fun x hx => by
      rcases List.mem_append.1 hx with hx | hx
      · exact h5 x hx
      · rw [List.mem_singleton.1 hx]; exact hp
    by_cases c : lim.toNat < b.f3.length + 1
    · have c' : lim.toNat < (b.f3 ++ [ps[j]]).length := by omega
      rw [if_pos c']
      have hw : wrap64 (b.f2 + ((((b.f3 ++ [ps[j]]).length - lim.toNat : Nat)) : Int)) = b.f2 + 1 := by rw [w64 (by omega) (by omega)]; omega
      have hq : (b.f3 ++ [ps[j]]).length - lim.toNat ≤ b.f3.length := by omega
      have hd : ((b.f3 ++ [ps[j]]).drop ((b.f3 ++ [ps[j]]).length - lim.toNat)).length = lim.toNat := by rw [List.length_drop]; omega
      have hr := rd60_last b.f3 ps[j] _ hq
      refine ⟨h0, h1, ?_, ?_, ?_, fun x hx => hall x (List.mem_of_mem_drop hx), fun _ _ => ⟨?_, ?_⟩⟩
      · show (((b.f3 ++ [ps[j]]).drop _).length : Int) + wrap64 _ = _
        rw [hd, hw, if_pos hm']; omega
      · show a.f2 ≤ wrap64 _
        rw [hw]; omega
      · show (((b.f3 ++ [ps[j]]).drop _).length : Int) ≤ lim
        rw [hd]; omega
      · show 0 < ((b.f3 ++ [ps[j]]).drop _).length
        rw [hd]; omega
      · rw [hlast]; exact hr
    · have c' : ¬ lim.toNat < (b.f3 ++ [ps[j]]).length := by omega
      rw [if_neg c']
      have hr := rd60_last b.f3 ps[j] 0 (Nat.zero_le _)
      rw [List.drop_zero] at hr
      refine ⟨h0, h1, ?_, h3, ?_, hall, fun _ _ => ⟨?_, ?_⟩⟩
      · show ((b.f3 ++ [ps[j]]).length : Int) + b.f2 = _
        rw [hlen, if_pos hm']; omega
      · show ((b.f3 ++ [ps[j]]).length : Int) ≤ lim
        rw [hlen]; omega
      · show 0 < (b.f3 ++ [ps[j]]).length
        rw [hlen]; omega
      · rw [hlast]; exact hr
  · have hm' : ¬ has a.f1 = true := by rw [← h1]; exact hm
    rw [if_neg hm]
    rw [if_neg hm'] at h2
    exact ⟨h0, h1, by rw [if_neg hm']; exact h2, h3, h4, h5, fun hc => absurd hc hm'⟩
theorem held_all {lim : Int} {has : Int → Bool} {ps : List P1} {bs : List B1} (ho : okPost lim bs = true) (h2 : ∀ b ∈ bs, b.f2 ≤ 2) (hp : ps.length ≤ 64) (hx : ∀ x ∈ ps, okP x = true) : ∀ (j : Nat), j ≤ ps.length → ∀ i, i < bs.length → heldIn lim has ps j (bs.getD i z58) ((sentJ lim.toNat has ps bs j).getD i z58)
  | 0, _, i, hi => by
    have hb := (boxB_iff _ _).1 (okPost_box ho hi)
    rw [sentJ_zero]
    exact ⟨rfl, rfl, by split <;> simp, Int.le_refl _, hb.2.2.2.2, ((okPs_iff _).1 hb.2.2.2.1).2, fun _ h => absurd h (Nat.lt_irrefl _)⟩
  | j + 1, hj, i, hi => by
    have hb := (boxB_iff _ _).1 (okPost_box ho hi)
    have ih := held_all (has := has) ho h2 hp hx j (by omega) i hi
    rw [sentJ_succ _ _ _ _ _ (by omega), getD_map (sendB lim.toNat has ps[j]) z58 z58 (by rw [sentJ_len]; exact hi)]
    exact held_step ((okPost_iff _ _).1 ho).1 (by omega) (by omega) (hx _ (List.getElem_mem _)) ⟨hb.2.2.1.1, h2 _ (getD_mem _ hi), ((okPs_iff _).1 hb.2.2.2.1).1⟩ ih
theorem sent_ok {lim : Int} {has : Int → Bool} {ps : List P1} {bs : List B1} (ho : okPost lim bs = true) (h2 : ∀ b ∈ bs, b.f2 ≤ 2) (hp : ps.length ≤ 64) (hx : ∀ x ∈ ps, okP x = true) (j : Nat) (hj : j ≤ ps.length) : okPost lim (sentJ lim.toNat has ps bs j) = true := by
  refine okPost_like ho (sentJ_len ..) fun i hi => ?_
  have hb := (boxB_iff _ _).1 (okPost_box ho hi)
  obtain ⟨q0, q1, q2, q3, q4, q5, _⟩ := held_all (has := has) ho h2 hp hx j hj i hi
  have hf := h2 _ (getD_mem z58 hi)
  have hl := ((okPost_iff _ _).1 ho).1
  have hb3 := hb.2.2.1
  have hb5 := hb.2.2.2.2
  refine ⟨q0, (boxB_iff _ _).2 ⟨by rw [q0]; exact hb.1, by rw [q1]; exact hb.2.1, ⟨by omega, ?_⟩, (okPs_iff _).2 ⟨by omega, q5⟩, q4⟩⟩
  split at q2 <;> omega
theorem sumH_is (ms : List Int) (ps : List P1) (hp : ps.length ≤ 64) : ∀ (l : List B1) (s : Int), 0 ≤ s → s + 64 * l.length ≤ 100000000 → sumH ms ps l s = s + ((ps.length * cntA (hasI ms) l : Nat) : Int)
  | [], s, _, _ => by
    rw [sumH]
    unfold cntA
    rw [List.filter_nil, List.length_nil, Nat.mul_zero]
    omega
  | a :: t, s, h0, h1 => by
    rw [List.length_cons] at h1
    rw [sumH]
    unfold gotH
    have e : cntA (hasI ms) (a :: t) = (if hasI ms a.f1 = true then cntA (hasI ms) t + 1 else cntA (hasI ms) t) := by
      unfold cntA
      rw [List.filter_cons]
      split <;> rfl
    rw [e]
    by_cases c : hasI ms a.f1 = true
    · rw [if_pos c, if_pos c, w64 (by omega) (by omega), sumH_is ms ps hp t _ (by omega) (by omega), Nat.mul_succ]
      omega
    · rw [if_neg c, if_neg c, Int.add_zero, w64 (by omega) (by omega), sumH_is ms ps hp t _ h0 (by omega)]
/-! ### The same, parcel by parcel -/
theorem okPs_one (p : P1) : okPs [p] = okP p := by
  unfold okPs
  simp
theorem sentJ_one (n : Nat) (has : Int → Bool) (p : P1) (bs : List B1) : sentJ n has [p] bs [p].length = bs.map (sendB n has p) := rfl
theorem implTo_from (lim : Int) (bs : List B1) (ms : List Int) (p : P1) (hl : bs.length ≤ 1048576) (hb : ∀ y ∈ bs, okB y) (hm : ms.length ≤ 1048576) : From (fun k => impl_SendTo.f k lim bs ms p.f0 p.f1) (saOf lim bs ms [p]) := by
  obtain ⟨K, e⟩ := impl_from lim bs ms [p] hl hb hm (by simp)
  refine ⟨K, fun k hk => ?_⟩
  have E := e k hk
  dsimp only at E
  simp only [impl_SendTo.f]
  rw [show ([⟨p.f0, p.f1⟩] : List P1) = [p] from rfl, E, Option.bind_some]
theorem okB_of {lim : Int} {bs : List B1} (h : okPost lim bs = true) : bs.length ≤ 1048576 ∧ ∀ y ∈ bs, okB y := by
  obtain ⟨_, s2, s3⟩ := okPost_small h
  exact ⟨by omega, okB_small s3⟩
theorem nowH_from (ms : List Int) (lim : Int) (bs : List B1) (ps : List P1) (hall : ∀ j, j ≤ ps.length → okPost lim (sentJ lim.toNat (hasI ms) ps bs j) = true) (hm : risesB ms = true) (hm2 : ms.length ≤ 1048576) (hx : ∀ x ∈ ps, okP x = true) : ∀ (d j : Nat), j + d = ps.length → From (fun k => nowH k ms (ps.drop j) lim (sentJ lim.toNat (hasI ms) ps bs j)) (lim, sentJ lim.toNat (hasI ms) ps bs ps.length)
  | 0, j, hj => ⟨0, fun k _ => by
      show nowH k ms (ps.drop j) lim _ = _
      rw [List.drop_of_length_le (by omega), nowH, show j = ps.length by omega]⟩
  | d + 1, j, hj => by
    have hjl : j < ps.length := by omega
    obtain ⟨K1, e1⟩ := nowH_from ms lim bs ps hall hm hm2 hx d (j + 1) (by omega)
    obtain ⟨c1, c2⟩ := okB_of (hall j (by omega))
    obtain ⟨K2, e2⟩ := implTo_from lim (sentJ lim.toNat (hasI ms) ps bs j) ms ps[j] c1 c2 hm2
    have hs : saOf lim (sentJ lim.toNat (hasI ms) ps bs j) ms [ps[j]] = (lim, sentJ lim.toNat (hasI ms) ps bs (j + 1), ((([ps[j]].length * cntA (hasI ms) (sentJ lim.toNat (hasI ms) ps bs j) : Nat)) : Int), true) := by
      unfold saOf
      rw [if_pos (hall j (by omega)), if_pos hm, okPs_one, if_pos (hx _ (List.getElem_mem _)), sentJ_one, ← sentJ_succ _ _ _ _ _ hjl, if_pos (hall (j + 1) (by omega))]
    rw [hs] at e2
    refine ⟨K1 + K2, fun k hk => ?_⟩
    have E1 := e1 k (by omega)
    have E2 := e2 k (by omega)
    dsimp only at E1 E2
    show nowH k ms (ps.drop j) lim _ = _
    rw [List.drop_eq_getElem_cons hjl, nowH, E2]
    simp only [Option.bind_some, if_true]
    exact E1
theorem parcels_self (l : List P1) (h : l.length ≤ 1048576) : From (fun k => impl_Parcel_64.f k l l) true := by
  have e := impl_Parcel_64_from l l h
  have hv : (decide (l.length = l.length) && (List.range l.length).all fun j => sameParcel (l.getD j z60) (l.getD j z60)) = true := by
    simp [sameParcel]
  rw [hv] at e
  exact e
theorem same_self (a : Int) (l : List B1) (h : l.length ≤ 1048576) (hb : ∀ y ∈ l, okB y) : From (fun k => impl_SamePost.f k a l a l) true := by
  obtain ⟨K, hK⟩ := from_all (g := fun k j => impl_Parcel_64.f k (l.getD j z58).f3 (l.getD j z58).f3) (fun j => true) l.length fun j hj => parcels_self _ (hb _ (getD_mem _ hj))
  obtain ⟨L, hL⟩ := all_loop (fun k i => impl_Box_SamePost_1.l0 k l l l.length i) l.length (by omega) K true (fun k i hk h0 h1 => by
      simp only [impl_Box_SamePost_1.l0, impl_SamePost_1.f, h0, h1, if_true, wsucc h0 (by omega), rd_T58, hK k hk i.toNat (by omega), Option.bind_some]) (fun k i _ h _ => by simp only [impl_Box_SamePost_1.l0, h, if_false])
  refine ⟨L, fun k hk => ?_⟩
  have H := hL k hk
  dsimp only at H
  simp only [impl_SamePost.f, impl_Box_SamePost_1.f, if_true, H, Option.bind_some]
/-! ### The members -/
theorem memF_from {c : List Int} (h : bytesOk c) : ∀ (d : Nat) (id : Int) (ms : List Int), id + d = 5 → 1 ≤ id → ms.Pairwise (· < ·) → (∀ x ∈ ms, 1 ≤ x ∧ x < id) → ms.length + d ≤ 4 →
    ∃ r, (∀ k, d < k → memF c k id ms = some r) ∧ r.Pairwise (· < ·) ∧ (∀ x ∈ r, 1 ≤ x ∧ x ≤ 1000) ∧ r.length ≤ 4
  | 0, id, ms, he, h1, hp, hx, hl => ⟨ms, fun k hk => by
      obtain ⟨k, rfl⟩ : ∃ n, k = n + 1 := ⟨k - 1, by omega⟩
      rw [memF, if_neg (by omega)], hp, fun x hx' => by have := hx x hx'; omega, by omega⟩
  | d + 1, id, ms, he, h1, hp, hx, hl => by
    obtain ⟨t, e1, _, _⟩ := r8At_from h (40 + id) 2 (by omega) (by omega)
    obtain ⟨r, e, r1, r2, r3⟩ := memF_from h d (id + 1) (if t = 0 then ms ++ [id] else ms) (by omega) (by omega) (by
      split
      · rw [List.pairwise_append]
        exact ⟨hp, List.pairwise_singleton _ _, fun a ha b hb => by rw [List.mem_singleton.1 hb]; exact (hx a ha).2⟩
      · exact hp) (fun x hx' => by
      split at hx'
      · rcases List.mem_append.1 hx' with h | h
        · have := hx x h; omega
        · have := List.mem_singleton.1 h; omega
      · have := hx x hx'; omega) (by
      split
      · rw [List.length_append, List.length_singleton]; omega
      · omega)
    refine ⟨r, fun k hk => ?_, r1, r2, r3⟩
    obtain ⟨k, rfl⟩ : ∃ n, k = n + 1 := ⟨k - 1, by omega⟩
    rw [memF, if_pos (by omega), w64 (x := 40 + id) (by omega) (by omega), e1]
    simp only [Option.bind_some]
    rw [w64 (x := id + 1) (by omega) (by omega)]
    exact e k (by omega)
theorem rises_of {l : List Int} (hp : l.Pairwise (· < ·)) (hx : ∀ x ∈ l, 1 ≤ x ∧ x ≤ 1000) : risesB l = true := by
  unfold risesB
  rw [List.all_eq_true]
  intro j hj
  have hj := List.mem_range.1 hj
  rw [Bool.and_eq_true, Bool.or_eq_true, decide_eq_true_eq, decide_eq_true_eq, decide_eq_true_eq]
  refine ⟨hx _ (getD_mem _ hj), ?_⟩
  by_cases c : j = 0
  · exact .inl c
  · right
    rw [gAt hj, gAt (show j - 1 < l.length by omega)]
    exact List.pairwise_iff_getElem.1 hp (j - 1) j (by omega) hj (by omega)
theorem impl_loads (a : Int) (l : List B1) (h : l.length ≤ 1048576) : From (fun k => impl_Post_loads.f k a l) (l.map (fun b => (b.f3.length : Int))) := by
  obtain ⟨K, hK⟩ := collect_loop (fun k out i => impl_Post_loads.l0 k out l l.length i) l z58 0 (fun b => some (b.f3.length : Int)) (fun k out i _ h0 h1 ho => by
    have hb : out.length < 17592186044416 := by omega
    simp only [impl_Post_loads.l0, h0, h1, hb, if_true, wsucc h0 (by omega), rd_T58, Option.toList]) (fun k out _ => by simp only [impl_Post_loads.l0, Int.lt_irrefl, if_false])
  refine ⟨K, fun k hk => ?_⟩
  have := hK k hk
  rw [List.filterMap_eq_map'] at this
  exact this
/-! ### The law -/
theorem FnHeld : laws_FnHeld.Pure := by
  intro x0 x1 ⟨_, q0⟩ ⟨_, q1⟩
  have b0 := bytes_of_wf q0
  have b1 := bytes_of_wf q1
  by_cases c0 : (x0.length : Int) > 48
  · exact ⟨0, by simp only [laws_FnHeld.f, laws_r8Long.f, c0, if_true, Option.bind_some]⟩
  by_cases c1 : (x1.length : Int) > 48
  · exact ⟨0, by simp only [laws_FnHeld.f, laws_r8Long.f, c0, c1, if_true, if_false, Option.bind_some, decide_true]⟩
  have hlong : laws_r8Long.f x0 x1 = some false := by simp only [laws_r8Long.f, c0, c1, if_false, Option.bind_some, decide_false]
  obtain ⟨lim, bs, ⟨K1, e1⟩, ho, h2⟩ := R8Post_from b0
  obtain ⟨n0, e2, n1, n2⟩ := r8At_from b1 40 8 (by omega) (by omega)
  obtain ⟨n0, rfl⟩ : ∃ m : Nat, n0 = m := ⟨n0.toNat, by omega⟩
  obtain ⟨ps, e3, hx, hpl⟩ := draw_parcels b1 n0 [] 0 0 (by omega) (by omega) (by omega) (fun x h => by cases h) (by rw [List.length_nil]; omega)
  obtain ⟨ms, e4, m1, m2, m3⟩ := memF_from b1 4 1 [] (by omega) (by omega) List.Pairwise.nil (fun x h => by cases h) (by rw [List.length_nil]; omega)
  have hm := rises_of m1 m2
  have hok : okPs ps = true := (okPs_iff _).2 ⟨by omega, hx⟩
  have hall := sent_ok (has := hasI ms) ho h2 (by omega) hx
  have hheld := held_all (has := hasI ms) ho h2 (by omega) hx ps.length (Nat.le_refl _)
  obtain ⟨c2, c3⟩ := okB_of ho
  obtain ⟨d2, d3⟩ := okB_of (hall ps.length (Nat.le_refl _))
  have hsl := sentJ_len lim.toNat (hasI ms) ps bs ps.length
  have hbl := ((okPost_iff _ _).1 ho).2.1
  obtain ⟨K5, e5⟩ := impl_from lim bs ms ps c2 c3 (by omega) (by omega)
  have hs : saOf lim bs ms ps = (lim, sentJ lim.toNat (hasI ms) ps bs ps.length, ((ps.length * cntA (hasI ms) bs : Nat) : Int), true) := by
    unfold saOf
    rw [if_pos ho, if_pos hm, if_pos hok, if_pos (hall _ (Nat.le_refl _))]
  rw [hs] at e5
  obtain ⟨K6, e6⟩ := ValidPost_from lim bs c2 c3
  obtain ⟨K7, e7⟩ := ValidPost_from lim _ d2 d3
  rw [ho] at e6
  rw [hall _ (Nat.le_refl _)] at e7
  obtain ⟨K8, e8⟩ := impl_loads lim _ d2
  obtain ⟨K9, e9⟩ := nowH_from ms lim bs ps hall hm (by omega) hx ps.length 0 (by omega)
  rw [List.drop_zero, sentJ_zero] at e9
  obtain ⟨K10, e10⟩ := same_self lim _ d2 d3
  have hsum := sumH_is ms ps (by omega) bs 0 (by omega) (by omega)
  rw [Int.zero_add] at hsum
  generalize hrs : sentJ lim.toNat (hasI ms) ps bs ps.length = rs at *
  generalize hK : K1 + K5 + K6 + K7 + K8 + K9 + K10 + n0 + 10 = K
  refine ⟨K, ?_⟩
  have E1 := e1 K (by omega)
  have E3 := e3 K (by omega)
  have E4 := e4 K (by omega)
  have E5 := e5 K (by omega)
  have E6 := e6 K (by omega)
  have E7 := e7 K (by omega)
  have E8 := e8 K (by omega)
  have E9 := e9 K (by omega)
  have E10 := e10 K (by omega)
  dsimp only at E1 E3 E4 E5 E6 E7 E8 E9 E10
  simp only [laws_FnHeld.f, hlong, Option.bind_some, Bool.false_eq_true, if_false]
  refine sureO_mk ⟨lim, bs, (n0 : Int), ps, ms, lim, rs, ((ps.length * cntA (hasI ms) bs : Nat) : Int), rs.map (fun b => (b.f3.length : Int)), lim, rs, ?_⟩
  exact {
    h0 := hlong
    h1 := E1
    h2 := e2
    h3 := by simp only [spec_R8Parcels.f, spec_l00From.f, Option.bind_some]; exact E3
    h4 := E4
    h5 := E5
    h6 := by simp only [impl_LoadsOf.f, E7, E8, Option.bind_some, if_true]
    h7 := E6
    h8 := E7
    h9 := hsl
    h10 := by rw [List.length_map]; exact hsl
    h11 := fun i hi => by
      obtain ⟨_, _, g2, g3, g4, _, g6⟩ := hheld i hi
      have hb := (boxB_iff _ _).1 (okPost_box ho hi)
      have hf := h2 _ (getD_mem z58 hi)
      have hn : (ps.length : Int) = ((ps.length : Nat) : Int) := rfl
      have e1 : rd_T58 bs (i : Int) = bs.getD i z58 := by unfold rd_T58; rw [Int.toNat_natCast]
      have e2 : rd_T58 rs (i : Int) = rs.getD i z58 := by unfold rd_T58; rw [Int.toNat_natCast]
      rw [e1, e2, getD_map (fun b : B1 => (b.f3.length : Int)) z58 0 (by rw [hsl]; exact hi)]
      exact ⟨rfl, g2, g4, g3, hb.2.2.1.1, by omega, ((okPs_iff _).1 hb.2.2.2.1).1, fun hc hq => g6 hc hq⟩
    h12 := hsum
    h13 := E9
    h14 := E10
    h15 := by omega
    h16 := by omega
    h17 := by omega }

end Go.Proofs.Ytgpiaeklhhacjaa.Pure
