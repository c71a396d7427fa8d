/- The program's ValidPost returns what the reference's returns, for every post that can be read. -/
import Derived.Test.YtgpiaeklhhacjaaXFnExactValidPostx7
import Derived.Test.YtgpiaeklhhacjaaXP
namespace Go.Proofs.Ytgpiaeklhhacjaa.Pure
open Go.RowKit Go.Proofs.Ytgpiaeklhhacjaa.XFnExactValidPost Go.Proofs.YtgpiaeklhhacjaaW.PrintWords Go.Proofs.YtgpiaeklhhacjaaW.PrintLast Go.Proofs.Ytgpiaeklhhacjaa.XP Go.Proofs.Ytgpiaeklhhacjaa.XP Go.Proofs.Ytgpiaeklhhacjaa.XP
set_option linter.unusedVariables false
set_option linter.unusedSimpArgs false

def convParcel : S70 → S60 := (fun x : S70 => (⟨x.f0, x.f1⟩ : S60))
theorem toParcelS_from (l : List S70) (h : l.length ≤ 1048576) : From (fun k => laws_toParcelS.f k l) (l.map convParcel) := by
  obtain ⟨K, hK⟩ := fill_all (F := laws_toParcelS.l0) convParcel z70 z60 (fun k xs ys i h0 h1 h2 h3 => by
      simp only [laws_toParcelS.l0, h0, h1, h2, if_true, laws_toParcel.f, Option.bind_some, wsucc h0 h3]; rfl) (fun k xs ys i h => by simp only [laws_toParcelS.l0, h, if_false]) l (by omega)
  refine ⟨K, fun k hk => ?_⟩
  simp only [laws_toParcelS.f, Int.toNat_natCast]
  rw [if_pos (by omega), if_pos (by omega)]
  exact hK k hk
theorem eqParcelS_from (l : List S60) (h : l.length ≤ 1048576) : From (fun k => laws_eqParcelS.f k l l) true := by
  obtain ⟨K, hK⟩ := all_loop (fun k i => laws_eqParcelS.l0 k l l i) l.length (by omega) 0 true (fun k i _ h0 h1 => by
      simp only [laws_eqParcelS.l0, h0, h1, if_true, laws_eqParcel.f, Option.bind_some, wsucc h0 (by omega)]) (fun k i _ h _ => by simp only [laws_eqParcelS.l0, h, if_false])
  refine ⟨K, fun k hk => ?_⟩
  simp only [laws_eqParcelS.f, if_true]
  exact hK k hk
theorem sz_le (n : Nat) (a : Int) (hl : n ≤ 9223372036854775807) (ha : 0 ≤ a) (ha2 : a ≤ 1048576) : wrap64 (a - (n : Int)) = a - n := w64 (by omega) (by omega)
def okBox (b : S115) : Prop := b.f3.length ≤ 1048576 ∧ b.f0.size ≤ 1048576
theorem szBox_tells (n : ByteArray) (x y : Int) (l : List S70) (a : Int) (ha : 0 ≤ a) (ha2 : a ≤ 1048576) (h1 : n.size ≤ 9223372036854775807) (h2 : l.length ≤ 9223372036854775807) :
    ∃ r, laws_szBox.f n x y l a = some r ∧ (r < 0 ∨ (n.size ≤ 1048576 ∧ l.length ≤ 1048576 ∧ 0 ≤ r ∧ r ≤ a)) := by
  unfold laws_szBox.f laws_szParcelS.f
  rw [sz_le n.size a h1 ha ha2]
  by_cases c1 : a - (n.size : Int) < 0
  · rw [if_pos c1]; exact ⟨_, rfl, .inl (by omega)⟩
  rw [if_neg c1, sz_le l.length (a - n.size) h2 (by omega) (by omega)]
  by_cases c2 : a - (n.size : Int) - l.length < 0
  · rw [if_pos c2]; exact ⟨-1, rfl, .inl (by omega)⟩
  rw [if_neg c2, Option.bind_some, if_neg c2]
  exact ⟨_, rfl, .inr (by omega)⟩
theorem szBoxS_tells (l : List S115) (a : Int) (ha : 0 ≤ a) (ha2 : a ≤ 1048576) (h1 : l.length ≤ 9223372036854775807) (hq : ∀ y ∈ l, Q115 y) :
    ∃ r, From (fun k => laws_szBoxS.f k l a) r ∧ (r < 0 ∨ (l.length ≤ 1048576 ∧ (∀ y ∈ l, okBox y) ∧ 0 ≤ r ∧ r ≤ a)) := by
  unfold laws_szBoxS.f
  rw [sz_le l.length a h1 ha ha2]
  by_cases c1 : a - (l.length : Int) < 0
  · simp only [if_pos c1]; exact ⟨-1, from_now fun _ => rfl, .inl (by omega)⟩
  simp only [if_neg c1]
  obtain ⟨r, hr, h⟩ := pay_loop (F := fun k a i => laws_szBoxS.l0 k l a i) l.length (fun j => okBox (l.getD j z115)) (fun a i h0 h2 h3 h4 => by
      have hm := getD_mem z115 (show i.toNat < l.length by omega)
      obtain ⟨t, ht, hc⟩ := szBox_tells (l.getD i.toNat z115).f0 (l.getD i.toNat z115).f1 (l.getD i.toNat z115).f2 (l.getD i.toNat z115).f3 a h3 h4 (hq _ hm).1 (hq _ hm).2.2.2.1
      refine ⟨0, ?_⟩
      rcases hc with hc | ⟨b1, b2, b3, b4⟩
      · left; intro k _; simp only [laws_szBoxS.l0, h0, h2, if_true, rd_T115, ht, Option.bind_some, hc]
      · right; refine ⟨t, b3, b4, ⟨b2, b1⟩, fun k _ => ?_⟩
        have hn : ¬ t < 0 := by omega
        simp only [laws_szBoxS.l0, h0, h2, if_true, rd_T115, ht, Option.bind_some, hn, if_false, wsucc h0 (by omega)]) (fun k a => by simp only [laws_szBoxS.l0, Int.lt_irrefl, if_false]) (a - l.length) (by omega) (by omega)
  refine ⟨r, hr, h.imp id fun ⟨r0, r1, hj⟩ => ⟨by omega, fun y hy => ?_, r0, by omega⟩⟩
  obtain ⟨j, hj2, rfl⟩ := List.mem_iff_getElem.1 hy
  have := hj j hj2
  rwa [List.getD_eq_getElem?_getD, List.getElem?_eq_getElem hj2] at this
theorem szPost_tells (m : Int) (l : List S115) (a : Int) (ha : 0 ≤ a) (ha2 : a ≤ 1048576) (h1 : l.length ≤ 9223372036854775807) (hq : ∀ y ∈ l, Q115 y) :
    ∃ r, From (fun k => laws_szPost.f k m l a) r ∧ (r < 0 ∨ (l.length ≤ 1048576 ∧ (∀ y ∈ l, okBox y) ∧ 0 ≤ r ∧ r ≤ a)) := by
  obtain ⟨r, ⟨K, hK⟩, h⟩ := szBoxS_tells l a ha ha2 h1 hq
  rcases h with h | h
  · exact ⟨-1, ⟨K, fun k hk => by simp only [laws_szPost.f, hK k hk, Option.bind_some, h, if_true]⟩, .inl (by omega)⟩
  · have hn : ¬ r < 0 := by omega
    exact ⟨r, ⟨K, fun k hk => by simp only [laws_szPost.f, hK k hk, Option.bind_some, hn, if_false]⟩, .inr h⟩
def convBox (x : S115) : S58 := ⟨x.f0, x.f1, x.f2, x.f3.map convParcel⟩
theorem toBoxS_from (l : List S115) (h : l.length ≤ 1048576) (hb : ∀ y ∈ l, okBox y) : From (fun k => laws_toBoxS.f k l) (l.map convBox) := by
  obtain ⟨K, hK⟩ := from_all (g := fun k j => laws_toParcelS.f k (l.getD j z115).f3) (fun j => (l.getD j z115).f3.map convParcel) l.length fun j hj => toParcelS_from _ (hb _ (getD_mem _ hj)).1
  obtain ⟨L, hL⟩ := fill_allK (F := fun k ys i => laws_toBoxS.l0 k l ys i) convBox z115 z58 l K (fun k ys i hk h0 h1 h2 => by
      simp only [laws_toBoxS.l0, h0, h1, h2, if_true, laws_toBox.f, rd_T115, hK k hk i.toNat (by omega), Option.bind_some, wsucc h0 (by omega)]; rfl) (fun k ys i _ h => by simp only [laws_toBoxS.l0, h, if_false])
  refine ⟨L, fun k hk => ?_⟩
  simp only [laws_toBoxS.f, Int.toNat_natCast]
  rw [if_pos (by omega), if_pos (by omega)]
  exact hL k hk
def okB (b : S58) : Prop := b.f3.length ≤ 1048576
theorem eqBoxS_from (l : List S58) (h : l.length ≤ 1048576) (hb : ∀ y ∈ l, okB y) : From (fun k => laws_eqBoxS.f k l l) true := by
  obtain ⟨K, hK⟩ := from_all (g := fun k j => laws_eqParcelS.f k (l.getD j z58).f3 (l.getD j z58).f3) (fun j => true) l.length fun j hj => eqParcelS_from _ (hb _ (getD_mem _ hj))
  obtain ⟨L, hL⟩ := all_loop (fun k i => laws_eqBoxS.l0 k l l i) l.length (by omega) K true (fun k i hk h0 h1 => by
      simp only [laws_eqBoxS.l0, h0, h1, if_true, laws_eqBox.f, rd_T58, hK k hk i.toNat (by omega), Option.bind_some, wsucc h0 (by omega)]) (fun k i _ h _ => by simp only [laws_eqBoxS.l0, h, if_false])
  refine ⟨L, fun k hk => ?_⟩
  simp only [laws_eqBoxS.f, if_true]
  exact hL k hk
theorem okB_conv {l : List S115} (hb : ∀ y ∈ l, okBox y) : ∀ y ∈ l.map convBox, okB y := by
  intro y hy
  obtain ⟨x, hx, rfl⟩ := List.mem_map.1 hy
  simpa [okB, convBox] using (hb x hx).1
theorem toPost_from (m : Int) (l : List S115) (h : l.length ≤ 1048576) (hb : ∀ y ∈ l, okBox y) : From (fun k => laws_toPost.f k m l) (m, l.map convBox) := by
  obtain ⟨K, hK⟩ := toBoxS_from l h hb
  exact ⟨K, fun k hk => by simp only [laws_toPost.f, hK k hk, Option.bind_some]⟩
theorem eqPost_from (m : Int) (l : List S58) (h : l.length ≤ 1048576) (hb : ∀ y ∈ l, okB y) : From (fun k => laws_eqPost.f k m l m l) true := by
  obtain ⟨K, hK⟩ := eqBoxS_from l h hb
  exact ⟨K, fun k hk => by simp only [laws_eqPost.f, hK k hk, Option.bind_some, if_true]⟩
theorem in_eq (a b c : Int) : spec_l00In.f a b c = impl_in.f a b c := rfl
theorem in_some (a b c : Int) : impl_in.f a b c = some (decide (b ≤ a ∧ a ≤ c)) := by
  unfold impl_in.f
  split
  · congr 1; rw [decide_eq_decide]; omega
  · congr 1; symm; rw [decide_eq_false_iff_not]; omega

def okP (p : S60) : Bool := decide (1 ≤ p.f0 ∧ p.f0 ≤ 1000) && decide (1 ≤ p.f1 ∧ p.f1 ≤ 1000000)
def okPs (l : List S60) : Bool := decide (l.length ≤ 64) && (List.range l.length).all fun j => okP (l.getD j z60)
theorem l04Parcel_some (p : S60) : spec_l04Parcel.f p.f0 p.f1 = some (okP p) := by
  simp only [spec_l04Parcel.f, in_eq, in_some, Option.bind_some, okP]
  by_cases h : 1 ≤ p.f0 ∧ p.f0 ≤ 1000 <;> simp [h]
theorem parcelOk_some (p : S60) : impl_parcelOk.f p.f0 p.f1 = some (okP p) := by
  simp only [impl_parcelOk.f, in_some, Option.bind_some, okP]
  by_cases h : 1 ≤ p.f0 ∧ p.f0 ≤ 1000 <;> simp [h]
theorem l04Parcels_from (l : List S60) (h : l.length ≤ 1048576) : From (fun k => spec_l04Parcels.f k l) (okPs l) := by
  by_cases hl : l.length ≤ 64
  · have hli : (l.length : Int) ≤ 64 := by omega
    obtain ⟨K, hK⟩ := test_loopC (fun k i => spec_l04Parcels.l0 k l i) 2 l.length 0 (fun j => okP (l.getD j z60)) true (fun k i _ h0 h1 => by
      simp only [spec_l04Parcels.l0, spec_l04Parcels.j1, h0, h1, hli, if_true, decide_true, rd_T60, l04Parcel_some, Option.bind_some, wsucc h0 (by omega)]) (fun k _ => by
      simp only [spec_l04Parcels.l0, spec_l04Parcels.j1, Int.lt_irrefl, if_false, Bool.false_eq_true, hli, decide_true])
    exact ⟨K, fun k hk => by simpa [okPs, hl, spec_l04Parcels.f] using hK k hk⟩
  · have hli : ¬ (l.length : Int) ≤ 64 := by omega
    refine ⟨2, fun k hk => ?_⟩
    obtain ⟨k, rfl⟩ : ∃ n, k = n + 2 := ⟨k - 2, by omega⟩
    have h1 : (0 : Int) < l.length := by omega
    simp only [spec_l04Parcels.f, spec_l04Parcels.l0, spec_l04Parcels.j1, h1, hli, if_true, decide_false, Bool.false_eq_true, if_false, okPs, hl, Bool.false_and]
theorem parcelsOk_from (l : List S60) (h : l.length ≤ 1048576) : From (fun k => impl_parcelsOk.f k l) (okPs l) := by
  by_cases hl : l.length ≤ 64
  · have hli : (l.length : Int) ≤ 64 := by omega
    obtain ⟨K, hK⟩ := test_loopB (fun k i => (impl_Parcel_badParcel_161.l0 k l l.length i).bind fun t => some (!(decide (t ≥ 0)))) l.length 0 (fun j => okP (l.getD j z60)) true (fun k i _ h0 h1 => by
      simp only [impl_Parcel_badParcel_161.l0, impl_badParcel.f, h0, h1, if_true, rd_T60, parcelOk_some, Option.bind_some, wsucc h0 (by omega)]
      rcases Bool.eq_false_or_eq_true (okP (l.getD i.toNat z60)) with c | c <;> simp [c, h0, -List.getD_eq_getElem?_getD]) (fun k _ => by
      simp only [impl_Parcel_badParcel_161.l0, Int.lt_irrefl, if_false, Option.bind_some]
      rfl)
    refine ⟨K, fun k hk => ?_⟩
    have := hK k hk
    simp only [impl_parcelsOk.f, impl_Parcel_badParcel_162.f, impl_Parcel_badParcel_161.f, hli, if_true]
    cases he : impl_Parcel_badParcel_161.l0 k l l.length 0 with
    | none => rw [he] at this; cases this
    | some t =>
      rw [he] at this
      simpa [okPs, hl] using this
  · have hli : ¬ (l.length : Int) ≤ 64 := by omega
    exact ⟨0, fun k hk => by simp only [impl_parcelsOk.f, hli, if_false, okPs, hl, decide_false, Bool.false_and]⟩
def boxB (m : Int) (b : S58) : Bool := decide ((b.f0.size : Int) = 16) && (decide (1 ≤ b.f1 ∧ b.f1 ≤ 1000) && (decide (0 ≤ b.f2 ∧ b.f2 ≤ 1000000000) && (okPs b.f3 && decide ((b.f3.length : Int) ≤ m))))
def okAt (m : Int) (l : List S58) (j : Nat) : Bool := boxB m (l.getD j z58) && (decide (j = 0) || Op.bytesLess (l.getD (j - 1) z58).f0.toList (l.getD j z58).f0.toList)
def okPost (m : Int) (l : List S58) : Bool := decide (1 ≤ m ∧ m ≤ 64) && (decide (l.length ≤ 32) && (List.range l.length).all (okAt m l))
theorem prev_at {i : Int} (h0 : 0 ≤ i) (h1 : i ≤ 4611686018427387904) (hp : i > 0) : wrap64 (i - 1) = i - 1 ∧ (i - 1).toNat = i.toNat - 1 ∧ 0 ≤ i - 1 := ⟨wpred h0 h1, by omega, by omega⟩
theorem l04Is_from (m : Int) (l : List S58) (h : l.length ≤ 1048576) (hb : ∀ y ∈ l, okB y) : From (fun k => spec_l04Is.f k m l) (okPost m l) := by
  have j0 : ∀ k, spec_l04Is.j0 (k + 1) true m l = some false := fun k => by simp only [spec_l04Is.j0, if_true]
  by_cases hm : 1 ≤ m ∧ m ≤ 64
  · by_cases hl : l.length ≤ 32
    · have hli : ¬ (l.length : Int) > 32 := by omega
      obtain ⟨K, hK⟩ := from_all (g := fun k j => spec_l04Parcels.f k (l.getD j z58).f3) (fun j => okPs (l.getD j z58).f3) l.length fun j hj => l04Parcels_from _ (hb _ (getD_mem _ hj))
      obtain ⟨L, hL⟩ := test_loopC (fun k i => spec_l04Is.l0 k i m l) 2 l.length K (okAt m l) true (fun k i hk h0 h1 => by
        have w := hK (k + 1) (by omega) i.toNat (by omega)
        have hlim : ((l.getD i.toNat z58).f3.length : Int) ≤ m ↔ ¬ ((l.getD i.toNat z58).f3.length : Int) > m := by omega
        simp only [spec_l04Is.l0, spec_l04Is.j2, spec_l02Id.f, in_eq, in_some, h0, h1, if_true, rd_T58, Option.bind_some, w, wsucc h0 (by omega), okAt, boxB, hlim]
        obtain ⟨b, hbx⟩ : ∃ b, l.getD i.toNat z58 = b := ⟨_, rfl⟩
        simp only [hbx]
        by_cases c0 : (b.f0.size : Int) = 16
        · by_cases c1 : 1 ≤ b.f1 ∧ b.f1 ≤ 1000
          · by_cases c2 : 0 ≤ b.f2 ∧ b.f2 ≤ 1000000000
            · rcases Bool.eq_false_or_eq_true (okPs b.f3) with c3 | c3
              · by_cases c4 : (b.f3.length : Int) > m
                · simp [c0, c1, c2, c3, c4]
                · by_cases c5 : i > 0
                  · obtain ⟨p1, p2, p3⟩ := prev_at h0 (by omega) c5
                    have p4 : i - 1 < l.length := by omega
                    have p5 : ¬ i.toNat = 0 := by omega
                    simp only [c0, c1, c2, c3, c4, c5, p1, p2, p3, p4, p5, if_true, if_false, decide_true, decide_false, and_self, not_false_eq_true, Bool.true_and, Bool.and_true, Bool.false_or, Bool.not_true, Bool.false_eq_true]
                  · have p5 : i.toNat = 0 := by omega
                    simp only [c0, c1, c2, c3, c4, c5, p5, if_true, if_false, decide_true, decide_false, and_self, not_false_eq_true, Bool.true_and, Bool.and_true, Bool.true_or, Bool.not_true, Bool.false_eq_true]
              · simp [c0, c1, c2, c3]
            · simp [c0, c1, c2]
          · simp [c0, c1]
        · simp [c0]) (fun k _ => by simp only [spec_l04Is.l0, Int.lt_irrefl, if_false])
      refine ⟨L + 1, fun k hk => ?_⟩
      obtain ⟨k, rfl⟩ : ∃ n, k = n + 1 := ⟨k - 1, by omega⟩
      simp only [spec_l04Is.f, in_eq, in_some, hm, Option.bind_some, hli, decide_true, decide_false, if_true, spec_l04Is.j0, Bool.false_eq_true, if_false, and_self, hL k (by omega), okPost, hl, Bool.true_and, Bool.and_true]
    · have hli : (l.length : Int) > 32 := by omega
      refine ⟨1, fun k hk => ?_⟩
      obtain ⟨k, rfl⟩ : ∃ n, k = n + 1 := ⟨k - 1, by omega⟩
      simp only [spec_l04Is.f, in_eq, in_some, hm, Option.bind_some, hli, decide_true, if_true, j0, okPost, hl, and_self, decide_false, Bool.true_and, Bool.false_and]
  · refine ⟨1, fun k hk => ?_⟩
    obtain ⟨k, rfl⟩ : ∃ n, k = n + 1 := ⟨k - 1, by omega⟩
    simp only [spec_l04Is.f, in_eq, in_some, hm, Option.bind_some, decide_false, Bool.false_eq_true, if_false, j0, okPost, Bool.false_and]
theorem ValidPost_from (m : Int) (l : List S58) (h : l.length ≤ 1048576) (hb : ∀ y ∈ l, okB y) : From (fun k => impl_ValidPost.f k m l) (okPost m l) := by
  have j0 : ∀ k, impl_ValidPost.j0 (k + 1) true m l = some false := fun k => by simp only [impl_ValidPost.j0, if_true]
  by_cases hm : 1 ≤ m ∧ m ≤ 64
  · by_cases hl : l.length ≤ 32
    · have hli : ¬ (l.length : Int) > 32 := by omega
      obtain ⟨K, hK⟩ := from_all (g := fun k j => impl_parcelsOk.f k (l.getD j z58).f3) (fun j => okPs (l.getD j z58).f3) l.length fun j hj => parcelsOk_from _ (hb _ (getD_mem _ hj))
      obtain ⟨L, hL⟩ := test_loopC (fun k i => impl_ValidPost.l0 k l l.length i m l) 2 l.length K (okAt m l) true (fun k i hk h0 h1 => by
        have w := hK (k + 1) (by omega) i.toNat (by omega)
        have hlim : ((l.getD i.toNat z58).f3.length : Int) ≤ m ↔ ¬ ((l.getD i.toNat z58).f3.length : Int) > m := by omega
        simp only [impl_ValidPost.l0, impl_ValidPost.j2, impl_isMember.f, impl_IsToken.f, in_some, h0, h1, if_true, rd_T58, Option.bind_some, w, wsucc h0 (by omega), okAt, boxB, hlim]
        obtain ⟨b, hbx⟩ : ∃ b, l.getD i.toNat z58 = b := ⟨_, rfl⟩
        simp only [hbx]
        by_cases c0 : (b.f0.size : Int) = 16
        · by_cases c1 : 1 ≤ b.f1 ∧ b.f1 ≤ 1000
          · by_cases c2 : 0 ≤ b.f2 ∧ b.f2 ≤ 1000000000
            · by_cases c4 : (b.f3.length : Int) > m
              · simp [c0, c1, c2, c4]
              · rcases Bool.eq_false_or_eq_true (okPs b.f3) with c3 | c3
                · by_cases c5 : i > 0
                  · obtain ⟨p1, p2, p3⟩ := prev_at h0 (by omega) c5
                    have p4 : i - 1 < l.length := by omega
                    have p5 : ¬ i.toNat = 0 := by omega
                    simp only [c0, c1, c2, c3, c4, c5, p1, p2, p3, p4, p5, if_true, if_false, decide_true, decide_false, and_self, not_false_eq_true, Bool.true_and, Bool.and_true, Bool.false_or, Bool.not_true, Bool.false_eq_true, beq_self_eq_true]
                  · have p5 : i.toNat = 0 := by omega
                    simp only [c0, c1, c2, c3, c4, c5, p5, if_true, if_false, decide_true, decide_false, and_self, not_false_eq_true, Bool.true_and, Bool.and_true, Bool.true_or, Bool.not_true, Bool.false_eq_true, beq_self_eq_true]
                · simp [c0, c1, c2, c3, c4]
            · simp [c0, c1, c2]
          · simp [c0, c1]
        · simp [c0]) (fun k _ => by simp only [impl_ValidPost.l0, Int.lt_irrefl, if_false])
      refine ⟨L + 1, fun k hk => ?_⟩
      obtain ⟨k, rfl⟩ : ∃ n, k = n + 1 := ⟨k - 1, by omega⟩
      simp only [impl_ValidPost.f, in_some, hm, Option.bind_some, hli, decide_true, decide_false, if_true, impl_ValidPost.j0, Bool.false_eq_true, if_false, and_self, hL k (by omega), okPost, hl, Bool.true_and, Bool.and_true]
    · have hli : (l.length : Int) > 32 := by omega
      refine ⟨1, fun k hk => ?_⟩
      obtain ⟨k, rfl⟩ : ∃ n, k = n + 1 := ⟨k - 1, by omega⟩
      simp only [impl_ValidPost.f, in_some, hm, Option.bind_some, hli, decide_true, if_true, j0, okPost, hl, and_self, decide_false, Bool.true_and, Bool.false_and]
  · refine ⟨1, fun k hk => ?_⟩
    obtain ⟨k, rfl⟩ : ∃ n, k = n + 1 := ⟨k - 1, by omega⟩
    simp only [impl_ValidPost.f, in_some, hm, Option.bind_some, decide_false, Bool.false_eq_true, if_false, j0, okPost, Bool.false_and]
theorem FnExactValidPost : laws_FnExactValidPost.Pure := by
  intro a l _ ⟨h1, q1⟩
  obtain ⟨s, ⟨K1, hs⟩, hc⟩ := szPost_tells a l 1048576 (by omega) (by omega) h1 q1
  rcases hc with hc | ⟨b1, b2, b3, b4⟩
  · exact ⟨K1, by simp only [laws_FnExactValidPost.f, hs K1 (Nat.le_refl _), Option.bind_some, hc, if_true]⟩
  have hn : ¬ s < 0 := by omega
  obtain ⟨K3, e1⟩ := toPost_from a l b1 b2
  obtain ⟨K5, e3⟩ := eqPost_from a (l.map convBox) (by simpa using b1) (okB_conv b2)
  obtain ⟨K7, e5⟩ := l04Is_from a (l.map convBox) (by simpa using b1) (okB_conv b2)
  obtain ⟨K8, e6⟩ := ValidPost_from a (l.map convBox) (by simpa using b1) (okB_conv b2)
  generalize hK : K1 + K3 + K5 + K7 + K8 = K
  refine ⟨K + 9, ?_⟩
  simp (disch := omega) only [laws_FnExactValidPost.f, laws_FnExactValidPost.j0, laws_FnExactValidPost.j1, spec_ValidPost.f, hs, hn, e1, e3, e5, e6, Option.bind_some, if_true, if_false]
  simp

end Go.Proofs.Ytgpiaeklhhacjaa.Pure
