/- The program's SamePost returns what the reference's returns, for every two posts that can be read. -/
import Derived.Test.YtgpiaeklhhacjaaXFnExactSamePostx7
import Derived.Test.YtgpiaeklhhacjaaXP
namespace Go.Proofs.Ytgpiaeklhhacjaa.Pure
open Go.RowKit Go.Proofs.Ytgpiaeklhhacjaa.XFnExactSamePost Go.Proofs.YtgpiaeklhhacjaaW.PrintWords Go.Proofs.YtgpiaeklhhacjaaW.PrintLast Go.Proofs.Ytgpiaeklhhacjaa.XP Go.Proofs.Ytgpiaeklhhacjaa.XP Go.Proofs.Ytgpiaeklhhacjaa.XP Go.Proofs.Ytgpiaeklhhacjaa.XP
set_option linter.unusedVariables false
set_option linter.unusedSimpArgs false

def convParcel : S70 → S60 := (fun x : S70 => (⟨x.f0, x.f1⟩ : S60))
theorem toParcelS_from (l : List S70) (h : l.length ≤ 1048576) : From (fun k => laws_toParcelS.f k l) (l.map convParcel) := by
  obtain ⟨K, hK⟩ := fill_all (F := laws_toParcelS.l0) convParcel z70 z60 (fun k xs ys i h0 h1 h2 h3 => by
      simp only [laws_toParcelS.l0, h0, h1, h2, if_true, laws_toParcel.f, Option.bind_some, wsucc h0 h3]; rfl) (fun k xs ys i h => by simp only [laws_toParcelS.l0, h, if_false]) l (by omega)
  refine ⟨K, fun k hk => ?_⟩
  simp only [laws_toParcelS.f, Int.toNat_natCast]
  rw [if_pos (by omega), if_pos (by omega)]
  exact hK k hk
theorem eqParcelS_from (l : List S60) (h : l.length ≤ 1048576) : From (fun k => laws_eqParcelS.f k l l) true := by
  obtain ⟨K, hK⟩ := all_loop (fun k i => laws_eqParcelS.l0 k l l i) l.length (by omega) 0 true (fun k i _ h0 h1 => by
      simp only [laws_eqParcelS.l0, h0, h1, if_true, laws_eqParcel.f, Option.bind_some, wsucc h0 (by omega)]) (fun k i _ h _ => by simp only [laws_eqParcelS.l0, h, if_false])
  refine ⟨K, fun k hk => ?_⟩
  simp only [laws_eqParcelS.f, if_true]
  exact hK k hk
theorem sz_le (n : Nat) (a : Int) (hl : n ≤ 9223372036854775807) (ha : 0 ≤ a) (ha2 : a ≤ 1048576) : wrap64 (a - (n : Int)) = a - n := w64 (by omega) (by omega)
def okBox (b : S115) : Prop := b.f3.length ≤ 1048576 ∧ b.f0.size ≤ 1048576
theorem szBox_tells (n : ByteArray) (x y : Int) (l : List S70) (a : Int) (ha : 0 ≤ a) (ha2 : a ≤ 1048576) (h1 : n.size ≤ 9223372036854775807) (h2 : l.length ≤ 9223372036854775807) :
    ∃ r, laws_szBox.f n x y l a = some r ∧ (r < 0 ∨ (n.size ≤ 1048576 ∧ l.length ≤ 1048576 ∧ 0 ≤ r ∧ r ≤ a)) := by
  unfold laws_szBox.f laws_szParcelS.f
  rw [sz_le n.size a h1 ha ha2]
  by_cases c1 : a - (n.size : Int) < 0
  · rw [if_pos c1]; exact ⟨_, rfl, .inl (by omega)⟩
  rw [if_neg c1, sz_le l.length (a - n.size) h2 (by omega) (by omega)]
  by_cases c2 : a - (n.size : Int) - l.length < 0
  · rw [if_pos c2]; exact ⟨-1, rfl, .inl (by omega)⟩
  rw [if_neg c2, Option.bind_some, if_neg c2]
  exact ⟨_, rfl, .inr (by omega)⟩
theorem szBoxS_tells (l : List S115) (a : Int) (ha : 0 ≤ a) (ha2 : a ≤ 1048576) (h1 : l.length ≤ 9223372036854775807) (hq : ∀ y ∈ l, Q115 y) :
    ∃ r, From (fun k => laws_szBoxS.f k l a) r ∧ (r < 0 ∨ (l.length ≤ 1048576 ∧ (∀ y ∈ l, okBox y) ∧ 0 ≤ r ∧ r ≤ a)) := by
  unfold laws_szBoxS.f
  rw [sz_le l.length a h1 ha ha2]
  by_cases c1 : a - (l.length : Int) < 0
  · simp only [if_pos c1]; exact ⟨-1, from_now fun _ => rfl, .inl (by omega)⟩
  simp only [if_neg c1]
  obtain ⟨r, hr, h⟩ := pay_loop (F := fun k a i => laws_szBoxS.l0 k l a i) l.length (fun j => okBox (l.getD j z115)) (fun a i h0 h2 h3 h4 => by
      have hm := getD_mem z115 (show i.toNat < l.length by omega)
      obtain ⟨t, ht, hc⟩ := szBox_tells (l.getD i.toNat z115).f0 (l.getD i.toNat z115).f1 (l.getD i.toNat z115).f2 (l.getD i.toNat z115).f3 a h3 h4 (hq _ hm).1 (hq _ hm).2.2.2.1
      refine ⟨0, ?_⟩
      rcases hc with hc | ⟨b1, b2, b3, b4⟩
      · left; intro k _; simp only [laws_szBoxS.l0, h0, h2, if_true, rd_T115, ht, Option.bind_some, hc]
      · right; refine ⟨t, b3, b4, ⟨b2, b1⟩, fun k _ => ?_⟩
        have hn : ¬ t < 0 := by omega
        simp only [laws_szBoxS.l0, h0, h2, if_true, rd_T115, ht, Option.bind_some, hn, if_false, wsucc h0 (by omega)]) (fun k a => by simp only [laws_szBoxS.l0, Int.lt_irrefl, if_false]) (a - l.length) (by omega) (by omega)
  refine ⟨r, hr, h.imp id fun ⟨r0, r1, hj⟩ => ⟨by omega, fun y hy => ?_, r0, by omega⟩⟩
  obtain ⟨j, hj2, rfl⟩ := List.mem_iff_getElem.1 hy
  have := hj j hj2
  rwa [List.getD_eq_getElem?_getD, List.getElem?_eq_getElem hj2] at this
theorem szPost_tells (m : Int) (l : List S115) (a : Int) (ha : 0 ≤ a) (ha2 : a ≤ 1048576) (h1 : l.length ≤ 9223372036854775807) (hq : ∀ y ∈ l, Q115 y) :
    ∃ r, From (fun k => laws_szPost.f k m l a) r ∧ (r < 0 ∨ (l.length ≤ 1048576 ∧ (∀ y ∈ l, okBox y) ∧ 0 ≤ r ∧ r ≤ a)) := by
  obtain ⟨r, ⟨K, hK⟩, h⟩ := szBoxS_tells l a ha ha2 h1 hq
  rcases h with h | h
  · exact ⟨-1, ⟨K, fun k hk => by simp only [laws_szPost.f, hK k hk, Option.bind_some, h, if_true]⟩, .inl (by omega)⟩
  · have hn : ¬ r < 0 := by omega
    exact ⟨r, ⟨K, fun k hk => by simp only [laws_szPost.f, hK k hk, Option.bind_some, hn, if_false]⟩, .inr h⟩
def convBox (x : S115) : S58 := ⟨x.f0, x.f1, x.f2, x.f3.map convParcel⟩
theorem toBoxS_from (l : List S115) (h : l.length ≤ 1048576) (hb : ∀ y ∈ l, okBox y) : From (fun k => laws_toBoxS.f k l) (l.map convBox) := by
  obtain ⟨K, hK⟩ := from_all (g := fun k j => laws_toParcelS.f k (l.getD j z115).f3) (fun j => (l.getD j z115).f3.map convParcel) l.length fun j hj => toParcelS_from _ (hb _ (getD_mem _ hj)).1
  obtain ⟨L, hL⟩ := fill_allK (F := fun k ys i => laws_toBoxS.l0 k l ys i) convBox z115 z58 l K (fun k ys i hk h0 h1 h2 => by
      simp only [laws_toBoxS.l0, h0, h1, h2, if_true, laws_toBox.f, rd_T115, hK k hk i.toNat (by omega), Option.bind_some, wsucc h0 (by omega)]; rfl) (fun k ys i _ h => by simp only [laws_toBoxS.l0, h, if_false])
  refine ⟨L, fun k hk => ?_⟩
  simp only [laws_toBoxS.f, Int.toNat_natCast]
  rw [if_pos (by omega), if_pos (by omega)]
  exact hL k hk
def okB (b : S58) : Prop := b.f3.length ≤ 1048576
theorem eqBoxS_from (l : List S58) (h : l.length ≤ 1048576) (hb : ∀ y ∈ l, okB y) : From (fun k => laws_eqBoxS.f k l l) true := by
  obtain ⟨K, hK⟩ := from_all (g := fun k j => laws_eqParcelS.f k (l.getD j z58).f3 (l.getD j z58).f3) (fun j => true) l.length fun j hj => eqParcelS_from _ (hb _ (getD_mem _ hj))
  obtain ⟨L, hL⟩ := all_loop (fun k i => laws_eqBoxS.l0 k l l i) l.length (by omega) K true (fun k i hk h0 h1 => by
      simp only [laws_eqBoxS.l0, h0, h1, if_true, laws_eqBox.f, rd_T58, hK k hk i.toNat (by omega), Option.bind_some, wsucc h0 (by omega)]) (fun k i _ h _ => by simp only [laws_eqBoxS.l0, h, if_false])
  refine ⟨L, fun k hk => ?_⟩
  simp only [laws_eqBoxS.f, if_true]
  exact hL k hk
theorem okB_conv {l : List S115} (hb : ∀ y ∈ l, okBox y) : ∀ y ∈ l.map convBox, okB y := by
  intro y hy
  obtain ⟨x, hx, rfl⟩ := List.mem_map.1 hy
  simpa [okB, convBox] using (hb x hx).1
theorem toPost_from (m : Int) (l : List S115) (h : l.length ≤ 1048576) (hb : ∀ y ∈ l, okBox y) : From (fun k => laws_toPost.f k m l) (m, l.map convBox) := by
  obtain ⟨K, hK⟩ := toBoxS_from l h hb
  exact ⟨K, fun k hk => by simp only [laws_toPost.f, hK k hk, Option.bind_some]⟩
theorem eqPost_from (m : Int) (l : List S58) (h : l.length ≤ 1048576) (hb : ∀ y ∈ l, okB y) : From (fun k => laws_eqPost.f k m l m l) true := by
  obtain ⟨K, hK⟩ := eqBoxS_from l h hb
  exact ⟨K, fun k hk => by simp only [laws_eqPost.f, hK k hk, Option.bind_some, if_true]⟩
def sameParcel (x y : S60) : Bool := x.f0 == y.f0 && x.f1 == y.f1
theorem impl_Parcel_from (l m : List S60) (h : l.length ≤ 1048576) : From (fun k => impl_Parcel.f k l m) (decide (l.length = m.length) && (List.range l.length).all fun j => sameParcel (l.getD j z60) (m.getD j z60)) := by
  by_cases hl : l.length = m.length
  · obtain ⟨K, hK⟩ := test_loopB (fun k i => impl_Parcel.l0 k l m l.length i) l.length 0 (fun j => sameParcel (l.getD j z60) (m.getD j z60)) true (fun k i _ h0 h1 => by
      have h2 : i < (m.length : Int) := by omega
      simp only [impl_Parcel.l0, h0, h1, h2, if_true, wsucc h0 (by omega), sameParcel, rd_T60]
      by_cases c0 : (l.getD i.toNat z60).f0 = (m.getD i.toNat z60).f0 <;> by_cases c1 : (l.getD i.toNat z60).f1 = (m.getD i.toNat z60).f1 <;> simp [c0, c1, -List.getD_eq_getElem?_getD]) (fun k _ => by simp only [impl_Parcel.l0, Int.lt_irrefl, if_false])
    refine ⟨K, fun k hk => ?_⟩
    have h1 : (l.length : Int) = (m.length : Int) := by omega
    simp only [impl_Parcel.f, h1, if_true]
    rw [← h1, hK k hk, hl]
    simp only [decide_true, Bool.true_and, Bool.and_true]
  · refine ⟨0, fun k _ => ?_⟩
    have h1 : ¬ (l.length : Int) = (m.length : Int) := by omega
    simp only [impl_Parcel.f, h1, if_false, hl, decide_false, Bool.false_and]
def allP (a b : List S60) : Bool := decide (a.length = b.length) && (List.range a.length).all fun j => sameParcel (a.getD j z60) (b.getD j z60)
def sameB (a b : S58) : Bool := decide (a.f0.toList = b.f0.toList) && (a.f1 == b.f1 && (a.f2 == b.f2 && allP a.f3 b.f3))
theorem l04_eq : ∀ k (l m : List S60), spec_l04Same.f k l m = impl_Parcel.f k l m := by
  have e : ∀ (l m : List S60), (l.length : Int) = m.length → ∀ k i, spec_l04Same.l0 k l m i = impl_Parcel.l0 k l m l.length i := by
    intro l m hl k
    induction k with
    | zero => intro i; rfl
    | succ k ih =>
      intro i
      simp only [spec_l04Same.l0, impl_Parcel.l0, ih]
      by_cases h1 : i < (l.length : Int) <;> by_cases h0 : 0 ≤ i <;> simp [h0, h1]
  intro k l m
  simp only [spec_l04Same.f, impl_Parcel.f]
  by_cases hl : (l.length : Int) = m.length
  · simp only [hl, if_true, e l m hl]
  · simp only [hl, if_false]
theorem same_both (a : Int) (l : List S58) (b : Int) (m : List S58) (h : l.length ≤ 1048576) (hb : ∀ y ∈ l, okB y) :
    ∃ r, From (fun k => spec_SamePost.f k a l b m) r ∧ From (fun k => impl_SamePost.f k a l b m) r := by
  by_cases ha : a = b
  · by_cases hl : l.length = m.length
    · have hli : (l.length : Int) = (m.length : Int) := by omega
      have hlb : ((l.length : Int) != (m.length : Int)) = false := by simp; omega
      obtain ⟨K, hK⟩ := from_all (g := fun k j => impl_Parcel.f k (l.getD j z58).f3 (m.getD j z58).f3) (fun j => allP (l.getD j z58).f3 (m.getD j z58).f3) l.length fun j hj => impl_Parcel_from _ _ (hb _ (getD_mem _ hj))
      obtain ⟨K1, e1⟩ := test_loopB (fun k i => spec_SamePost.l0 k i a l b m) l.length K (fun j => sameB (l.getD j z58) (m.getD j z58)) true (fun k i hk h0 h1 => by
        have h2 : i < (m.length : Int) := by omega
        simp only [spec_SamePost.l0, h0, h1, h2, if_true, wsucc h0 (by omega), rd_T58, l04_eq, hK k hk i.toNat (by omega), Option.bind_some, sameB]
        by_cases c0 : (l.getD i.toNat z58).f0.toList = (m.getD i.toNat z58).f0.toList <;> by_cases c1 : (l.getD i.toNat z58).f1 = (m.getD i.toNat z58).f1 <;> by_cases c2 : (l.getD i.toNat z58).f2 = (m.getD i.toNat z58).f2 <;> rcases Bool.eq_false_or_eq_true (allP (l.getD i.toNat z58).f3 (m.getD i.toNat z58).f3) with c3 | c3 <;> simp [c0, c1, c2, c3, -List.getD_eq_getElem?_getD]) (fun k _ => by simp only [spec_SamePost.l0, Int.lt_irrefl, if_false])
      obtain ⟨K2, e2⟩ := test_loopB (fun k i => impl_Box_SamePost_1.l0 k m l l.length i) l.length K (fun j => sameB (l.getD j z58) (m.getD j z58)) true (fun k i hk h0 h1 => by
        have h2 : i < (m.length : Int) := by omega
        simp only [impl_Box_SamePost_1.l0, impl_SamePost_1.f, h0, h1, h2, if_true, wsucc h0 (by omega), rd_T58, hK k hk i.toNat (by omega), Option.bind_some, sameB]
        by_cases c0 : (l.getD i.toNat z58).f0.toList = (m.getD i.toNat z58).f0.toList <;> by_cases c1 : (l.getD i.toNat z58).f1 = (m.getD i.toNat z58).f1 <;> by_cases c2 : (l.getD i.toNat z58).f2 = (m.getD i.toNat z58).f2 <;> rcases Bool.eq_false_or_eq_true (allP (l.getD i.toNat z58).f3 (m.getD i.toNat z58).f3) with c3 | c3 <;> simp [c0, c1, c2, c3, -List.getD_eq_getElem?_getD]) (fun k _ => by simp only [impl_Box_SamePost_1.l0, Int.lt_irrefl, if_false])
      refine ⟨(List.range l.length).all (fun j => sameB (l.getD j z58) (m.getD j z58)) && true, ⟨K1 + 1, fun k hk => ?_⟩, ⟨K2, fun k hk => ?_⟩⟩
      · obtain ⟨k, rfl⟩ : ∃ n, k = n + 1 := ⟨k - 1, by omega⟩
        simp only [spec_SamePost.f, ha, if_true, hlb, spec_SamePost.j0, Bool.false_eq_true, if_false]
        subst ha
        exact e1 k (by omega)
      · simp only [impl_SamePost.f, ha, if_true, impl_Box_SamePost_1.f, hli]
        rw [← hli, e2 k hk]
        rfl
    · have hli : ¬ (l.length : Int) = (m.length : Int) := by omega
      have hlb : ((l.length : Int) != (m.length : Int)) = true := by simp; omega
      refine ⟨false, ⟨1, fun k hk => ?_⟩, ⟨0, fun k hk => ?_⟩⟩
      · obtain ⟨k, rfl⟩ : ∃ n, k = n + 1 := ⟨k - 1, by omega⟩
        simp only [spec_SamePost.f, ha, if_true, hlb, spec_SamePost.j0]
      · simp only [impl_SamePost.f, ha, if_true, impl_Box_SamePost_1.f, hli, if_false, Option.bind_some]
  · refine ⟨false, ⟨1, fun k hk => ?_⟩, ⟨0, fun k hk => ?_⟩⟩
    · obtain ⟨k, rfl⟩ : ∃ n, k = n + 1 := ⟨k - 1, by omega⟩
      simp only [spec_SamePost.f, ha, if_false, spec_SamePost.j0, if_true]
    · simp only [impl_SamePost.f, ha, if_false]
theorem FnExactSamePost : laws_FnExactSamePost.Pure := by
  intro a l b m _ ⟨h1, q1⟩ _ ⟨h2, q2⟩
  obtain ⟨s, ⟨K1, hs⟩, hc⟩ := szPost_tells a l 1048576 (by omega) (by omega) h1 q1
  rcases hc with hc | ⟨b1, b2, b3, b4⟩
  · exact ⟨K1, by simp only [laws_FnExactSamePost.f, hs K1 (Nat.le_refl _), Option.bind_some, hc, if_true]⟩
  have hn : ¬ s < 0 := by omega
  obtain ⟨s', ⟨K2, hs'⟩, hc'⟩ := szPost_tells b m s (by omega) (by omega) h2 q2
  rcases hc' with hc' | ⟨d1, d2, d3, d4⟩
  · refine ⟨K1 + K2 + 1, ?_⟩
    simp (disch := omega) only [laws_FnExactSamePost.f, laws_FnExactSamePost.j0, hs, hs', Option.bind_some, hn, hc', if_true, if_false]
  have hn' : ¬ s' < 0 := by omega
  obtain ⟨K3, e1⟩ := toPost_from a l b1 b2
  obtain ⟨K4, e2⟩ := toPost_from b m d1 d2
  obtain ⟨K5, e3⟩ := eqPost_from a (l.map convBox) (by simpa using b1) (okB_conv b2)
  obtain ⟨K6, e4⟩ := eqPost_from b (m.map convBox) (by simpa using d1) (okB_conv d2)
  obtain ⟨r, ⟨K7, e5⟩, ⟨K8, e6⟩⟩ := same_both a (l.map convBox) b (m.map convBox) (by simpa using b1) (okB_conv b2)
  generalize hK : K1 + K2 + K3 + K4 + K5 + K6 + K7 + K8 = K
  refine ⟨K + 9, ?_⟩
  simp (disch := omega) only [laws_FnExactSamePost.f, laws_FnExactSamePost.j0, laws_FnExactSamePost.j1, laws_FnExactSamePost.j2, laws_FnExactSamePost.j3, hs, hn, hs', hn', e1, e2, e3, e4, e5, e6, Option.bind_some, if_true, if_false]
  simp

end Go.Proofs.Ytgpiaeklhhacjaa.Pure
