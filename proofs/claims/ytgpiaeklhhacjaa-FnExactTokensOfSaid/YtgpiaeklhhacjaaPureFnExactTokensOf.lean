/- The program's TokensOf returns what the reference's returns, for every post that can be read and every number. -/
import Derived.Test.YtgpiaeklhhacjaaXFnExactTokensOfx8
import Derived.Test.YtgpiaeklhhacjaaVFnExactTokensOfXP
namespace Go.Proofs.Ytgpiaeklhhacjaa.Pure
open Go.RowKit Go.Proofs.Ytgpiaeklhhacjaa.XFnExactTokensOf Go.Proofs.YtgpiaeklhhacjaaW.PrintWords Go.Proofs.YtgpiaeklhhacjaaW.PrintLast Go.Proofs.Ytgpiaeklhhacjaa.XP Go.Proofs.Ytgpiaeklhhacjaa.XP
set_option linter.unusedVariables false
set_option linter.unusedSimpArgs false

def convParcel : S70 → S60 := (fun x : S70 => (⟨x.f0, x.f1⟩ : S60))
theorem toParcelS_from (l : List S70) (h : l.length ≤ 1048576) : From (fun k => laws_toParcelS.f k l) (l.map convParcel) := by
  obtain ⟨K, hK⟩ := fill_all (F := laws_toParcelS.l0) convParcel z70 z60 (fun k xs ys i h0 h1 h2 h3 => by
      simp only [laws_toParcelS.l0, h0, h1, h2, if_true, laws_toParcel.f, Option.bind_some, wsucc h0 h3]; rfl) (fun k xs ys i h => by simp only [laws_toParcelS.l0, h, if_false]) l (by omega)
  refine ⟨K, fun k hk => ?_⟩
  simp only [laws_toParcelS.f, Int.toNat_natCast]
  rw [if_pos (by omega), if_pos (by omega)]
  exact hK k hk
theorem eqParcelS_from (l : List S60) (h : l.length ≤ 1048576) : From (fun k => laws_eqParcelS.f k l l) true := by
  obtain ⟨K, hK⟩ := all_loop (fun k i => laws_eqParcelS.l0 k l l i) l.length (by omega) 0 true (fun k i _ h0 h1 => by
      simp only [laws_eqParcelS.l0, h0, h1, if_true, laws_eqParcel.f, Option.bind_some, wsucc h0 (by omega)]) (fun k i _ h _ => by simp only [laws_eqParcelS.l0, h, if_false])
  refine ⟨K, fun k hk => ?_⟩
  simp only [laws_eqParcelS.f, if_true]
  exact hK k hk
theorem sz_le (n : Nat) (a : Int) (hl : n ≤ 9223372036854775807) (ha : 0 ≤ a) (ha2 : a ≤ 1048576) : wrap64 (a - (n : Int)) = a - n := w64 (by omega) (by omega)
def okBox (b : S115) : Prop := b.f3.length ≤ 1048576 ∧ b.f0.size ≤ 1048576
theorem szBox_tells (n : ByteArray) (x y : Int) (l : List S70) (a : Int) (ha : 0 ≤ a) (ha2 : a ≤ 1048576) (h1 : n.size ≤ 9223372036854775807) (h2 : l.length ≤ 9223372036854775807) :
    ∃ r, laws_szBox.f n x y l a = some r ∧ (r < 0 ∨ (n.size ≤ 1048576 ∧ l.length ≤ 1048576 ∧ 0 ≤ r ∧ r ≤ a)) := by
  unfold laws_szBox.f laws_szParcelS.f
  rw [sz_le n.size a h1 ha ha2]
  by_cases c1 : a - (n.size : Int) < 0
  · rw [if_pos c1]; exact ⟨_, rfl, .inl (by omega)⟩
  rw [if_neg c1, sz_le l.length (a - n.size) h2 (by omega) (by omega)]
  by_cases c2 : a - (n.size : Int) - l.length < 0
  · rw [if_pos c2]; exact ⟨-1, rfl, .inl (by omega)⟩
  rw [if_neg c2, Option.bind_some, if_neg c2]
  exact ⟨_, rfl, .inr (by omega)⟩
theorem szBoxS_tells (l : List S115) (a : Int) (ha : 0 ≤ a) (ha2 : a ≤ 1048576) (h1 : l.length ≤ 9223372036854775807) (hq : ∀ y ∈ l, Q115 y) :
    ∃ r, From (fun k => laws_szBoxS.f k l a) r ∧ (r < 0 ∨ (l.length ≤ 1048576 ∧ (∀ y ∈ l, okBox y) ∧ 0 ≤ r ∧ r ≤ a)) := by
  unfold laws_szBoxS.f
  rw [sz_le l.length a h1 ha ha2]
  by_cases c1 : a - (l.length : Int) < 0
  · simp only [if_pos c1]; exact ⟨-1, from_now fun _ => rfl, .inl (by omega)⟩
  simp only [if_neg c1]
  obtain ⟨r, hr, h⟩ := pay_loop (F := fun k a i => laws_szBoxS.l0 k l a i) l.length (fun j => okBox (l.getD j z115)) (fun a i h0 h2 h3 h4 => by
      have hm := getD_mem z115 (show i.toNat < l.length by omega)
      obtain ⟨t, ht, hc⟩ := szBox_tells (l.getD i.toNat z115).f0 (l.getD i.toNat z115).f1 (l.getD i.toNat z115).f2 (l.getD i.toNat z115).f3 a h3 h4 (hq _ hm).1 (hq _ hm).2.2.2.1
      refine ⟨0, ?_⟩
      rcases hc with hc | ⟨b1, b2, b3, b4⟩
      · left; intro k _; simp only [laws_szBoxS.l0, h0, h2, if_true, rd_T115, ht, Option.bind_some, hc]
      · right; refine ⟨t, b3, b4, ⟨b2, b1⟩, fun k _ => ?_⟩
        have hn : ¬ t < 0 := by omega
        simp only [laws_szBoxS.l0, h0, h2, if_true, rd_T115, ht, Option.bind_some, hn, if_false, wsucc h0 (by omega)]) (fun k a => by simp only [laws_szBoxS.l0, Int.lt_irrefl, if_false]) (a - l.length) (by omega) (by omega)
  refine ⟨r, hr, h.imp id fun ⟨r0, r1, hj⟩ => ⟨by omega, fun y hy => ?_, r0, by omega⟩⟩
  obtain ⟨j, hj2, rfl⟩ := List.mem_iff_getElem.1 hy
  have := hj j hj2
  rwa [List.getD_eq_getElem?_getD, List.getElem?_eq_getElem hj2] at this
theorem szPost_tells (m : Int) (l : List S115) (a : Int) (ha : 0 ≤ a) (ha2 : a ≤ 1048576) (h1 : l.length ≤ 9223372036854775807) (hq : ∀ y ∈ l, Q115 y) :
    ∃ r, From (fun k => laws_szPost.f k m l a) r ∧ (r < 0 ∨ (l.length ≤ 1048576 ∧ (∀ y ∈ l, okBox y) ∧ 0 ≤ r ∧ r ≤ a)) := by
  obtain ⟨r, ⟨K, hK⟩, h⟩ := szBoxS_tells l a ha ha2 h1 hq
  rcases h with h | h
  · exact ⟨-1, ⟨K, fun k hk => by simp only [laws_szPost.f, hK k hk, Option.bind_some, h, if_true]⟩, .inl (by omega)⟩
  · have hn : ¬ r < 0 := by omega
    exact ⟨r, ⟨K, fun k hk => by simp only [laws_szPost.f, hK k hk, Option.bind_some, hn, if_false]⟩, .inr h⟩
def convBox (x : S115) : S58 := ⟨x.f0, x.f1, x.f2, x.f3.map convParcel⟩
theorem toBoxS_from (l : List S115) (h : l.length ≤ 1048576) (hb : ∀ y ∈ l, okBox y) : From (fun k => laws_toBoxS.f k l) (l.map convBox) := by
  obtain ⟨K, hK⟩ := from_all (g := fun k j => laws_toParcelS.f k (l.getD j z115).f3) (fun j => (l.getD j z115).f3.map convParcel) l.length fun j hj => toParcelS_from _ (hb _ (getD_mem _ hj)).1
  obtain ⟨L, hL⟩ := fill_allK (F := fun k ys i => laws_toBoxS.l0 k l ys i) convBox z115 z58 l K (fun k ys i hk h0 h1 h2 => by
      simp only [laws_toBoxS.l0, h0, h1, h2, if_true, laws_toBox.f, rd_T115, hK k hk i.toNat (by omega), Option.bind_some, wsucc h0 (by omega)]; rfl) (fun k ys i _ h => by simp only [laws_toBoxS.l0, h, if_false])
  refine ⟨L, fun k hk => ?_⟩
  simp only [laws_toBoxS.f, Int.toNat_natCast]
  rw [if_pos (by omega), if_pos (by omega)]
  exact hL k hk
def okB (b : S58) : Prop := b.f3.length ≤ 1048576
theorem eqBoxS_from (l : List S58) (h : l.length ≤ 1048576) (hb : ∀ y ∈ l, okB y) : From (fun k => laws_eqBoxS.f k l l) true := by
  obtain ⟨K, hK⟩ := from_all (g := fun k j => laws_eqParcelS.f k (l.getD j z58).f3 (l.getD j z58).f3) (fun j => true) l.length fun j hj => eqParcelS_from _ (hb _ (getD_mem _ hj))
  obtain ⟨L, hL⟩ := all_loop (fun k i => laws_eqBoxS.l0 k l l i) l.length (by omega) K true (fun k i hk h0 h1 => by
      simp only [laws_eqBoxS.l0, h0, h1, if_true, laws_eqBox.f, rd_T58, hK k hk i.toNat (by omega), Option.bind_some, wsucc h0 (by omega)]) (fun k i _ h _ => by simp only [laws_eqBoxS.l0, h, if_false])
  refine ⟨L, fun k hk => ?_⟩
  simp only [laws_eqBoxS.f, if_true]
  exact hL k hk
theorem okB_conv {l : List S115} (hb : ∀ y ∈ l, okBox y) : ∀ y ∈ l.map convBox, okB y := by
  intro y hy
  obtain ⟨x, hx, rfl⟩ := List.mem_map.1 hy
  simpa [okB, convBox] using (hb x hx).1
theorem toPost_from (m : Int) (l : List S115) (h : l.length ≤ 1048576) (hb : ∀ y ∈ l, okBox y) : From (fun k => laws_toPost.f k m l) (m, l.map convBox) := by
  obtain ⟨K, hK⟩ := toBoxS_from l h hb
  exact ⟨K, fun k hk => by simp only [laws_toPost.f, hK k hk, Option.bind_some]⟩
theorem eqPost_from (m : Int) (l : List S58) (h : l.length ≤ 1048576) (hb : ∀ y ∈ l, okB y) : From (fun k => laws_eqPost.f k m l m l) true := by
  obtain ⟨K, hK⟩ := eqBoxS_from l h hb
  exact ⟨K, fun k hk => by simp only [laws_eqPost.f, hK k hk, Option.bind_some, if_true]⟩
theorem in_eq (a b c : Int) : spec_l00In.f a b c = impl_in.f a b c := rfl
theorem in_some (a b c : Int) : impl_in.f a b c = some (decide (b ≤ a ∧ a ≤ c)) := by
  unfold impl_in.f
  split
  · congr 1; rw [decide_eq_decide]; omega
  · congr 1; symm; rw [decide_eq_false_iff_not]; omega

def okP (p : S60) : Bool := decide (1 ≤ p.f0 ∧ p.f0 ≤ 1000) && decide (1 ≤ p.f1 ∧ p.f1 ≤ 1000000)
def okPs (l : List S60) : Bool := decide (l.length ≤ 64) && (List.range l.length).all fun j => okP (l.getD j z60)
theorem l04Parcel_some (p : S60) : spec_l04Parcel.f p.f0 p.f1 = some (okP p) := by
  simp only [spec_l04Parcel.f, in_eq, in_some, Option.bind_some, okP]
  by_cases h : 1 ≤ p.f0 ∧ p.f0 ≤ 1000 <;> simp [h]
theorem parcelOk_some (p : S60) : impl_parcelOk.f p.f0 p.f1 = some (okP p) := by
  simp only [impl_parcelOk.f, in_some, Option.bind_some, okP]
  by_cases h : 1 ≤ p.f0 ∧ p.f0 ≤ 1000 <;> simp [h]
theorem l04Parcels_from (l : List S60) (h : l.length ≤ 1048576) : From (fun k => spec_l04Parcels.f k l) (okPs l) := by
  by_cases hl : l.length ≤ 64
  · have hli : (l.length : Int) ≤ 64 := by omega
    obtain ⟨K, hK⟩ := test_loopC (fun k i => spec_l04Parcels.l0 k l i) 2 l.length 0 (fun j => okP (l.getD j z60)) true (fun k i _ h0 h1 => by
      simp only [spec_l04Parcels.l0, spec_l04Parcels.j1, h0, h1, hli, if_true, decide_true, rd_T60, l04Parcel_some, Option.bind_some, wsucc h0 (by omega)]) (fun k _ => by
      simp only [spec_l04Parcels.l0, spec_l04Parcels.j1, Int.lt_irrefl, if_false, Bool.false_eq_true, hli, decide_true])
    exact ⟨K, fun k hk => by simpa [okPs, hl, spec_l04Parcels.f] using hK k hk⟩
  · have hli : ¬ (l.length : Int) ≤ 64 := by omega
    refine ⟨2, fun k hk => ?_⟩
    obtain ⟨k, rfl⟩ : ∃ n, k = n + 2 := ⟨k - 2, by omega⟩
    have h1 : (0 : Int) < l.length := by omega
    simp only [spec_l04Parcels.f, spec_l04Parcels.l0, spec_l04Parcels.j1, h1, hli, if_true, decide_false, Bool.false_eq_true, if_false, okPs, hl, Bool.false_and]
theorem parcelsOk_from (l : List S60) (h : l.length ≤ 1048576) : From (fun k => impl_parcelsOk.f k l) (okPs l) := by
  by_cases hl : l.length ≤ 64
  · have hli : (l.length : Int) ≤ 64 := by omega
    obtain ⟨K, hK⟩ := test_loopB (fun k i => (impl_Parcel_badParcel_161.l0 k l l.length i).bind fun t => some (!(decide (t ≥ 0)))) l.length 0 (fun j => okP (l.getD j z60)) true (fun k i _ h0 h1 => by
      simp only [impl_Parcel_badParcel_161.l0, impl_badParcel.f, h0, h1, if_true, rd_T60, parcelOk_some, Option.bind_some, wsucc h0 (by omega)]
      rcases Bool.eq_false_or_eq_true (okP (l.getD i.toNat z60)) with c | c <;> simp [c, h0, -List.getD_eq_getElem?_getD]) (fun k _ => by
      simp only [impl_Parcel_badParcel_161.l0, Int.lt_irrefl, if_false, Option.bind_some]
      rfl)
    refine ⟨K, fun k hk => ?_⟩
    have := hK k hk
    simp only [impl_parcelsOk.f, impl_Parcel_badParcel_162.f, impl_Parcel_badParcel_161.f, hli, if_true]
    cases he : impl_Parcel_badParcel_161.l0 k l l.length 0 with
    | none => rw [he] at this; cases this
    | some t =>
      rw [he] at this
      simpa [okPs, hl] using this
  · have hli : ¬ (l.length : Int) ≤ 64 := by omega
    exact ⟨0, fun k hk => by simp only [impl_parcelsOk.f, hli, if_false, okPs, hl, decide_false, Bool.false_and]⟩
def boxB (m : Int) (b : S58) : Bool := decide ((b.f0.size : Int) = 16) && (decide (1 ≤ b.f1 ∧ b.f1 ≤ 1000) && (decide (0 ≤ b.f2 ∧ b.f2 ≤ 1000000000) && (okPs b.f3 && decide ((b.f3.length : Int) ≤ m))))
def okAt (m : Int) (l : List S58) (j : Nat) : Bool := boxB m (l.getD j z58) && (decide (j = 0) || Op.bytesLess (l.getD (j - 1) z58).f0.toList (l.getD j z58).f0.toList)
def okPost (m : Int) (l : List S58) : Bool := decide (1 ≤ m ∧ m ≤ 64) && (decide (l.length ≤ 32) && (List.range l.length).all (okAt m l))
theorem prev_at {i : Int} (h0 : 0 ≤ i) (h1 : i ≤ 4611686018427387904) (hp : i > 0) : wrap64 (i - 1) = i - 1 ∧ (i - 1).toNat = i.toNat - 1 ∧ 0 ≤ i - 1 := ⟨wpred h0 h1, by omega, by omega⟩
theorem l04Is_from (m : Int) (l : List S58) (h : l.length ≤ 1048576) (hb : ∀ y ∈ l, okB y) : From (fun k => spec_l04Is.f k m l) (okPost m l) := by
  have j0 : ∀ k, spec_l04Is.j0 (k + 1) true m l = some false := fun k => by simp only [spec_l04Is.j0, if_true]
  by_cases hm : 1 ≤ m ∧ m ≤ 64
  · by_cases hl : l.length ≤ 32
    · have hli : ¬ (l.length : Int) > 32 := by omega
      obtain ⟨K, hK⟩ := from_all (g := fun k j => spec_l04Parcels.f k (l.getD j z58).f3) (fun j => okPs (l.getD j z58).f3) l.length fun j hj => l04Parcels_from _ (hb _ (getD_mem _ hj))
      obtain ⟨L, hL⟩ := test_loopC (fun k i => spec_l04Is.l0 k i m l) 2 l.length K (okAt m l) true (fun k i hk h0 h1 => by
        have w := hK (k + 1) (by omega) i.toNat (by omega)
        have hlim : ((l.getD i.toNat z58).f3.length : Int) ≤ m ↔ ¬ ((l.getD i.toNat z58).f3.length : Int) > m := by omega
        simp only [spec_l04Is.l0, spec_l04Is.j2, spec_l02Id.f, in_eq, in_some, h0, h1, if_true, rd_T58, Option.bind_some, w, wsucc h0 (by omega), okAt, boxB, hlim]
        obtain ⟨b, hbx⟩ : ∃ b, l.getD i.toNat z58 = b := ⟨_, rfl⟩
        simp only [hbx]
        by_cases c0 : (b.f0.size : Int) = 16
        · by_cases c1 : 1 ≤ b.f1 ∧ b.f1 ≤ 1000
          · by_cases c2 : 0 ≤ b.f2 ∧ b.f2 ≤ 1000000000
            · rcases Bool.eq_false_or_eq_true (okPs b.f3) with c3 | c3
              · by_cases c4 : (b.f3.length : Int) > m
                · simp [c0, c1, c2, c3, c4]
                · by_cases c5 : i > 0
                  · obtain ⟨p1, p2, p3⟩ := prev_at h0 (by omega) c5
                    have p4 : i - 1 < l.length := by omega
                    have p5 : ¬ i.toNat = 0 := by omega
                    simp only [c0, c1, c2, c3, c4, c5, p1, p2, p3, p4, p5, if_true, if_false, decide_true, decide_false, and_self, not_false_eq_true, Bool.true_and, Bool.and_true, Bool.false_or, Bool.not_true, Bool.false_eq_true]
                  · have p5 : i.toNat = 0 := by omega
                    simp only [c0, c1, c2, c3, c4, c5, p5, if_true, if_false, decide_true, decide_false, and_self, not_false_eq_true, Bool.true_and, Bool.and_true, Bool.true_or, Bool.not_true, Bool.false_eq_true]
              · simp [c0, c1, c2, c3]
            · simp [c0, c1, c2]
          · simp [c0, c1]
        · simp [c0]) (fun k _ => by simp only [spec_l04Is.l0, Int.lt_irrefl, if_false])
      refine ⟨L + 1, fun k hk => ?_⟩
      obtain ⟨k, rfl⟩ : ∃ n, k = n + 1 := ⟨k - 1, by omega⟩
      simp only [spec_l04Is.f, in_eq, in_some, hm, Option.bind_some, hli, decide_true, decide_false, if_true, spec_l04Is.j0, Bool.false_eq_true, if_false, and_self, hL k (by omega), okPost, hl, Bool.true_and, Bool.and_true]
    · have hli : (l.length : Int) > 32 := by omega
      refine ⟨1, fun k hk => ?_⟩
      obtain ⟨k, rfl⟩ : ∃ n, k = n + 1 := ⟨k - 1, by omega⟩
      simp only [spec_l04Is.f, in_eq, in_some, hm, Option.bind_some, hli, decide_true, if_true, j0, okPost, hl, and_self, decide_false, Bool.true_and, Bool.false_and]
  · refine ⟨1, fun k hk => ?_⟩
    obtain ⟨k, rfl⟩ : ∃ n, k = n + 1 := ⟨k - 1, by omega⟩
    simp only [spec_l04Is.f, in_eq, in_some, hm, Option.bind_some, decide_false, Bool.false_eq_true, if_false, j0, okPost, Bool.false_and]
theorem ValidPost_from (m : Int) (l : List S58) (h : l.length ≤ 1048576) (hb : ∀ y ∈ l, okB y) : From (fun k => impl_ValidPost.f k m l) (okPost m l) := by
  have j0 : ∀ k, impl_ValidPost.j0 (k + 1) true m l = some false := fun k => by simp only [impl_ValidPost.j0, if_true]
  by_cases hm : 1 ≤ m ∧ m ≤ 64
  · by_cases hl : l.length ≤ 32
    · have hli : ¬ (l.length : Int) > 32 := by omega
      obtain ⟨K, hK⟩ := from_all (g := fun k j => impl_parcelsOk.f k (l.getD j z58).f3) (fun j => okPs (l.getD j z58).f3) l.length fun j hj => parcelsOk_from _ (hb _ (getD_mem _ hj))
      obtain ⟨L, hL⟩ := test_loopC (fun k i => impl_ValidPost.l0 k l l.length i m l) 2 l.length K (okAt m l) true (fun k i hk h0 h1 => by
        have w := hK (k + 1) (by omega) i.toNat (by omega)
        have hlim : ((l.getD i.toNat z58).f3.length : Int) ≤ m ↔ ¬ ((l.getD i.toNat z58).f3.length : Int) > m := by omega
        simp only [impl_ValidPost.l0, impl_ValidPost.j2, impl_isMember.f, impl_IsToken.f, in_some, h0, h1, if_true, rd_T58, Option.bind_some, w, wsucc h0 (by omega), okAt, boxB, hlim]
        obtain ⟨b, hbx⟩ : ∃ b, l.getD i.toNat z58 = b := ⟨_, rfl⟩
        simp only [hbx]
        by_cases c0 : (b.f0.size : Int) = 16
        · by_cases c1 : 1 ≤ b.f1 ∧ b.f1 ≤ 1000
          · by_cases c2 : 0 ≤ b.f2 ∧ b.f2 ≤ 1000000000
            · by_cases c4 : (b.f3.length : Int) > m
              · simp [c0, c1, c2, c4]
              · rcases Bool.eq_false_or_eq_true (okPs b.f3) with c3 | c3
                · by_cases c5 : i > 0
                  · obtain ⟨p1, p2, p3⟩ := prev_at h0 (by omega) c5
                    have p4 : i - 1 < l.length := by omega
                    have p5 : ¬ i.toNat = 0 := by omega
                    simp only [c0, c1, c2, c3, c4, c5, p1, p2, p3, p4, p5, if_true, if_false, decide_true, decide_false, and_self, not_false_eq_true, Bool.true_and, Bool.and_true, Bool.false_or, Bool.not_true, Bool.false_eq_true, beq_self_eq_true]
                  · have p5 : i.toNat = 0 := by omega
                    simp only [c0, c1, c2, c3, c4, c5, p5, if_true, if_false, decide_true, decide_false, and_self, not_false_eq_true, Bool.true_and, Bool.and_true, Bool.true_or, Bool.not_true, Bool.false_eq_true, beq_self_eq_true]
                · simp [c0, c1, c2, c3, c4]
            · simp [c0, c1, c2]
          · simp [c0, c1]
        · simp [c0]) (fun k _ => by simp only [impl_ValidPost.l0, Int.lt_irrefl, if_false])
      refine ⟨L + 1, fun k hk => ?_⟩
      obtain ⟨k, rfl⟩ : ∃ n, k = n + 1 := ⟨k - 1, by omega⟩
      simp only [impl_ValidPost.f, in_some, hm, Option.bind_some, hli, decide_true, decide_false, if_true, impl_ValidPost.j0, Bool.false_eq_true, if_false, and_self, hL k (by omega), okPost, hl, Bool.true_and, Bool.and_true]
    · have hli : (l.length : Int) > 32 := by omega
      refine ⟨1, fun k hk => ?_⟩
      obtain ⟨k, rfl⟩ : ∃ n, k = n + 1 := ⟨k - 1, by omega⟩
      simp only [impl_ValidPost.f, in_some, hm, Option.bind_some, hli, decide_true, if_true, j0, okPost, hl, and_self, decide_false, Bool.true_and, Bool.false_and]
  · refine ⟨1, fun k hk => ?_⟩
    obtain ⟨k, rfl⟩ : ∃ n, k = n + 1 := ⟨k - 1, by omega⟩
    simp only [impl_ValidPost.f, in_some, hm, Option.bind_some, decide_false, Bool.false_eq_true, if_false, j0, okPost, Bool.false_and]
theorem markParcelS_from (l : List S60) (m : Int) (hm : 0 ≤ m) (hb : m ≤ 1152921504606846976) (h : l.length ≤ 1048576) :
    ∃ ys, From (fun k => laws_markParcelS.f k l m) (m + 2 * l.length, ys) ∧ ys.length = l.length ∧ ∀ j : Nat, j < l.length → ys[j]? = some (⟨m + 2 * j, m + 2 * j + 1⟩ : S60) :=
  mark_all (F := fun k xs m i => laws_markParcelS.l0 k xs m i) 2 (by omega) (by omega) (fun m => (⟨m, m + 1⟩ : S60)) (fun k xs m i h0 h1 h2 h3 h4 => by
    have hi : i.toNat < xs.length := by omega
    simp only [laws_markParcelS.l0, h0, h1, if_true, wsucc h0 h2, Option.bind_some, rd_T60, getD_set hi, List.set_set, List.length_set, wsucc (show 0 ≤ m by omega) (by omega), wsucc (show 0 ≤ m + 1 by omega) (by omega)]
    congr 1; omega) (fun k xs m i h => by simp only [laws_markParcelS.l0, h, if_false]) l m hm (by have := mul_mono (c := 2) (by omega) h; omega) (by omega)
theorem strOf_one (v : Int) : (strOfNums [v]).size = 1 := rfl
theorem markText_rounds : ∀ (m : Nat) (x : Int) (s : ByteArray), 0 ≤ x → x.toNat ≤ m → s.size + m ≤ 4611686018427387904 → ∃ r, ∀ k, m < k → laws_markText.l0 k x s = some r := by
  intro m
  induction m with
  | zero =>
    intro x s h0 h1 h2
    have hx : ¬ x > 0 := by omega
    have hs : 1 + s.size ≤ 9223372036854775807 := by omega
    refine ⟨(⟨#[109]⟩ : ByteArray) ++ s, fun k hk => ?_⟩
    obtain ⟨k, rfl⟩ : ∃ n, k = n + 1 := ⟨k - 1, by omega⟩
    simp only [laws_markText.l0, hx, hs, if_true, if_false]
  | succ m ih =>
    intro x s h0 h1 h2
    by_cases hx : x > 0
    · have hd : Int.tdiv x 10 = x / 10 := Int.tdiv_eq_ediv_of_nonneg h0
      have hw : wrap64 (Int.tdiv x 10) = x / 10 := by rw [hd]; exact w64 (by omega) (by omega)
      have hz : (strOfNums [(wrap64 (48 + (Int.tmod x 10))) % 256]).size + s.size ≤ 9223372036854775807 := by rw [strOf_one]; omega
      obtain ⟨r, hr⟩ := ih (x / 10) ((strOfNums [(wrap64 (48 + (Int.tmod x 10))) % 256]) ++ s) (by omega) (by omega) (by rw [ByteArray.size_append, strOf_one]; omega)
      refine ⟨r, fun k hk => ?_⟩
      obtain ⟨k, rfl⟩ : ∃ n, k = n + 1 := ⟨k - 1, by omega⟩
      simp only [laws_markText.l0, hx, if_true, Option.bind_some, hz, hw]
      exact hr k (by omega)
    · have hs : 1 + s.size ≤ 9223372036854775807 := by omega
      refine ⟨(⟨#[109]⟩ : ByteArray) ++ s, fun k hk => ?_⟩
      obtain ⟨k, rfl⟩ : ∃ n, k = n + 1 := ⟨k - 1, by omega⟩
      simp only [laws_markText.l0, hx, hs, if_true, if_false]
theorem markText_from (x : Int) (h0 : 0 ≤ x) (h : x ≤ 1099511627776000) : ∃ s, From (fun k => laws_markText.f k x) s := by
  by_cases hx : x ≤ 0
  · exact ⟨(⟨#[109, 48]⟩ : ByteArray), from_now fun k => by simp only [laws_markText.f, hx, if_true]⟩
  · obtain ⟨r, hr⟩ := markText_rounds x.toNat x (⟨#[]⟩ : ByteArray) h0 (Nat.le_refl _) (by show 0 + x.toNat ≤ _; omega)
    exact ⟨r, x.toNat + 1, fun k hk => by simp only [laws_markText.f, hx, if_false]; exact hr k (by omega)⟩
theorem okB_set {l : List S58} {i : Nat} {b : S58} (h : ∀ y ∈ l, okB y) (hb : okB b) : ∀ y ∈ l.set i b, okB y := fun y hy => by
  rcases List.mem_or_eq_of_mem_set hy with h1 | h1
  · exact h y h1
  · rw [h1]; exact hb
theorem rd_set_box (xs : List S58) (i : Int) (b : S58) (h : i.toNat < xs.length) : rd_T58 (xs.set i.toNat b) i = b := getD_set h
theorem markBoxS_rounds : ∀ (n : Nat) (xs : List S58) (m i : Int), 0 ≤ i → i ≤ xs.length → xs.length ≤ 1048576 → (xs.length : Int) - i = n → 0 ≤ m → m + 2097155 * (n : Int) ≤ 4398046511104 → (∀ y ∈ xs, okB y) → ∃ r, From (fun k => laws_markBoxS.l0 k xs m i) r ∧ 0 ≤ r.1 := by
  intro n
  induction n with
  | zero =>
    intro xs m i h0 h1 hx hn hm hb ho
    have hi : ¬ i < (xs.length : Int) := by omega
    refine ⟨(m, xs), ⟨1, fun k hk => ?_⟩, hm⟩
    obtain ⟨k, rfl⟩ : ∃ n, k = n + 1 := ⟨k - 1, by omega⟩
    simp only [laws_markBoxS.l0, hi, if_false]
  | succ n ih =>
    intro xs m i h0 h1 hx hn hm hb ho
    have hi : i < (xs.length : Int) := by omega
    have hin : i.toNat < xs.length := by omega
    have w1 : wrap64 (m + 1) = m + 1 := wsucc hm (by omega)
    have w2 : wrap64 (m + 1 + 1) = m + 1 + 1 := wsucc (by omega) (by omega)
    have w3 : wrap64 (m + 1 + 1 + 1) = m + 1 + 1 + 1 := wsucc (by omega) (by omega)
    have w4 : wrap64 (i + 1) = i + 1 := wsucc h0 (by omega)
    obtain ⟨s, ⟨K1, e1⟩⟩ := markText_from m hm (by omega)
    have hr : ∀ b, rd_T58 (xs.set i.toNat b) i = b := fun b => rd_set_box xs i b hin
    generalize hb0 : (rd_T58 xs i) = b0
    have hok0 : okB b0 := by rw [← hb0]; exact ho _ (getD_mem _ hin)
    have hl0 : b0.f3.length ≤ 1048576 := hok0
    obtain ⟨ys, ⟨K2, e2⟩, hys, _⟩ := markParcelS_from b0.f3 (m + 1 + 1 + 1) (by omega) (by omega) hok0
    obtain ⟨r, ⟨K3, e3⟩, hr2⟩ := ih (xs.set i.toNat ⟨s, m + 1, m + 1 + 1, ys⟩) (m + 1 + 1 + 1 + 2 * b0.f3.length) (i + 1) (by omega) (by simp; omega) (by simpa using hx) (by simp; omega) (by omega) (by omega) (okB_set ho (by show ys.length ≤ _; rw [hys]; exact hok0))
    refine ⟨r, ⟨K1 + K2 + K3 + 1, fun k hk => ?_⟩, hr2⟩
    obtain ⟨k, rfl⟩ : ∃ n, k = n + 1 := ⟨k - 1, by omega⟩
    have E2 : laws_markParcelS.f k b0.f3 (m + 1 + 1 + 1) = some (m + 1 + 1 + 1 + 2 * b0.f3.length, ys) := by
      simp only [laws_markParcelS.f]
      exact e2 k (by omega)
    simp only [laws_markBoxS.l0, hi, h0, if_true, e1 k (by omega), Option.bind_some, hr, List.set_set, hb0, w1, w2, w3, w4, E2]
    exact e3 k (by omega)
theorem markPost_from (a : Int) (l : List S58) (h : l.length ≤ 1048576) (hb : ∀ y ∈ l, okB y) : ∃ r, From (fun k => laws_markPost.f k a l 1) r ∧ ¬ r.1 < 0 := by
  obtain ⟨r, ⟨K, e⟩, hr⟩ := markBoxS_rounds l.length l 1 0 (by omega) (by omega) h (by omega) (by omega) (by omega) hb
  refine ⟨r, ⟨K, fun k hk => ?_⟩, by omega⟩
  simp only [laws_markPost.f, laws_markBoxS.f, e k hk, Option.bind_some]
theorem eqStringS_from (l : List ByteArray) (h : l.length ≤ 1073741824) : From (fun k => laws_eqStringS.f k l l) true := by
  obtain ⟨K, hK⟩ := all_loop (fun k i => laws_eqStringS.l0 k l l i) l.length (by omega) 0 true (fun k i _ h0 h1 => by
      simp only [laws_eqStringS.l0, h0, h1, if_true, wsucc h0 (by omega)]) (fun k i _ h _ => by simp only [laws_eqStringS.l0, h, if_false])
  refine ⟨K, fun k hk => ?_⟩
  simp only [laws_eqStringS.f, if_true]
  exact hK k hk
theorem markText_fun : ∃ (mt : Int → ByteArray) (C : Nat), ∀ x : Int, 0 ≤ x → x ≤ 2097152 → ∀ k, C ≤ k → laws_markText.f k x = some (mt x) := by
  have h : ∀ x : Int, ∃ s : ByteArray, 0 ≤ x → x ≤ 2097152 → ∀ k, 2097153 ≤ k → laws_markText.f k x = some s := by
    intro x
    by_cases h0 : 0 ≤ x
    · by_cases h1 : x ≤ 2097152
      · by_cases hx : x ≤ 0
        · exact ⟨(⟨#[109, 48]⟩ : ByteArray), fun _ _ k _ => by simp only [laws_markText.f, hx, if_true]⟩
        · obtain ⟨r, hr⟩ := markText_rounds x.toNat x (⟨#[]⟩ : ByteArray) h0 (Nat.le_refl _) (by show 0 + x.toNat ≤ _; omega)
          exact ⟨r, fun _ _ k hk => by simp only [laws_markText.f, hx, if_false]; exact hr k (by omega)⟩
      · exact ⟨ByteArray.empty, fun _ h => absurd h h1⟩
    · exact ⟨ByteArray.empty, fun h => absurd h h0⟩
  exact ⟨fun x => Classical.choose (h x), 2097153, fun x => Classical.choose_spec (h x)⟩
theorem strs_law (l : List ByteArray) (h : l.length ≤ 1048576) : ∃ ys : List ByteArray, From (fun k => laws_markStringS.f k l 1) (1 + l.length, ys) ∧ From (fun k => laws_heldStringS.f k ys 1) (1 + l.length) := by
  obtain ⟨mt, C, hmt⟩ := markText_fun
  obtain ⟨ys, ⟨K, hK⟩, hl, hy⟩ := mark_allB 2097152 (by omega) (F := fun k xs m i => laws_markStringS.l0 (k + C) xs m i) 1 (by omega) (by omega) mt (fun k xs m i h0 h1 h2 h3 h4 => by
      simp only [show k + 1 + C = (k + C) + 1 by omega, laws_markStringS.l0, h0, h1, if_true, hmt m h3 (by omega) (k + C) (by omega), Option.bind_some, wsucc h0 h2, wsucc h3 (by omega)]) (fun k xs m i h => by
      simp only [show k + 1 + C = (k + C) + 1 by omega, laws_markStringS.l0, h, if_false]) l 1 (by omega) (by omega) (by omega)
  refine ⟨ys, ⟨K + C, fun k hk => ?_⟩, ?_⟩
  · obtain ⟨k, rfl⟩ : ∃ n, k = n + C := ⟨k - C, by omega⟩
    have := hK k (by omega)
    simpa [laws_markStringS.f] using this
  · obtain ⟨L, hL⟩ := all_loop (fun k i => laws_heldStringS.l0 k ys (1 + i) i) ys.length (by omega) C (1 + (ys.length : Int)) (fun k i hk h0 h1 => by
      have hr : rdOf ByteArray.empty ys i = mt (1 + i) := by
        have := hy i.toNat (by omega)
        rw [rdOf, getD_of this]; congr 1; omega
      simp only [laws_heldStringS.l0, h0, h1, if_true, hr, hmt (1 + i) (by omega) (by omega) k hk, Option.bind_some, wsucc h0 (by omega), wsucc (show 0 ≤ 1 + i by omega) (by omega)]
      congr 1; omega) (fun k i _ h he => by subst he; simp only [laws_heldStringS.l0, h, if_false])
    refine ⟨L, fun k hk => ?_⟩
    have := hL k hk
    rw [hl] at this
    simpa [laws_heldStringS.f] using this
/-- The law over a post whose answer is a list of strings: from what both answer. -/
theorem law_post (hb : ∀ (a : Int) (l : List S58) (x : Int), l.length ≤ 1048576 → (∀ y ∈ l, okB y) → ∃ g : List ByteArray × Bool, g.1.length ≤ 1048576 ∧ From (fun k => spec_TokensOf.f k a l x) g ∧ From (fun k => impl_TokensOf.f k a l x) g) : laws_FnExactTokensOf.Pure := by
  intro a l x _ ⟨h1, q1⟩ _
  obtain ⟨s, ⟨K0, hs⟩, hc⟩ := szPost_tells a l 1048576 (by omega) (by omega) h1 q1
  rcases hc with hc | ⟨b1, b2, b3, b4⟩
  · exact ⟨K0, by simp only [laws_FnExactTokensOf.f, hs K0 (Nat.le_refl _), Option.bind_some, hc, if_true]⟩
  have hn : ¬ s < 0 := by omega
  obtain ⟨K1, e1⟩ := toPost_from a l b1 b2
  have b1' : (l.map convBox).length ≤ 1048576 := by simpa using b1
  have b2' := okB_conv b2
  generalize l.map convBox = l' at *
  obtain ⟨K2, e2⟩ := eqPost_from a l' b1' b2'
  obtain ⟨u, ⟨K7, e7⟩, hu⟩ := markPost_from a l' b1' b2'
  obtain ⟨g, hg, ⟨K8, e8⟩, ⟨K9, e9⟩⟩ := hb a l' x b1' b2'
  obtain ⟨K10, e10⟩ := eqStringS_from g.1 (by omega)
  obtain ⟨ys, ⟨K11, e11⟩, ⟨K12, e12⟩⟩ := strs_law g.1 (by omega)
  generalize hK : K0 + K1 + K2 + K7 + K8 + K9 + K10 + K11 + K12 = K
  refine ⟨K + 12, ?_⟩
  have hp : ¬ (1 + (g.1.length : Int)) < 0 := by omega
  have hb : (g.2 != g.2) = false := by simp
  have HS := hs (K + 12) (by omega)
  have E1 := fun i => e1 (K + i) (by omega)
  have E2 := fun i => e2 (K + i) (by omega)
  have E7 := fun i => e7 (K + i) (by omega)
  have E8 := fun i => e8 (K + i) (by omega)
  have E9 := fun i => e9 (K + i) (by omega)
  have E10 := fun i => e10 (K + i) (by omega)
  have E11 := fun i => e11 (K + i) (by omega)
  have E12 := fun i => e12 (K + i) (by omega)
  clear e1 e2 e7 e8 e9 e10 e11 e12
  simp only [laws_FnExactTokensOf.f, HS, hn, Option.bind_some, if_false]
  simp only [laws_FnExactTokensOf.j0, E1, E8, E9, E10, hb, Option.bind_some, if_true]
  simp only [laws_FnExactTokensOf.j1, Bool.false_eq_true, if_false]
  simp only [laws_FnExactTokensOf.j2, E1, E2, Option.bind_some, if_true]
  simp only [laws_FnExactTokensOf.j3, E7, E10, hu, hb, Option.bind_some, if_true, if_false]
  simp only [laws_FnExactTokensOf.j4, Bool.false_eq_true, if_false]
  simp only [laws_FnExactTokensOf.j5, E11, E12, hp, Option.bind_some, if_false]
  simp only [laws_FnExactTokensOf.j6, if_true]
  simp only [laws_FnExactTokensOf.j7, E1, E9, E10, hb, Option.bind_some, if_true]
  simp only [laws_FnExactTokensOf.j8, Bool.false_eq_true, if_false]
  simp only [laws_FnExactTokensOf.j9, E12, hp, Option.bind_some, if_true, if_false]
def tokenOf (x : Int) (b : S58) : Option ByteArray := if b.f1 = x then some b.f0 else none
theorem spec_tokens (a : Int) (l : List S58) (x : Int) (h : l.length ≤ 1048576) : From (fun k => spec_TokensOf.l0 k x [] 0 a l) (l.filterMap (tokenOf x), true) :=
  collect_then (fun k out i => spec_TokensOf.l0 k x out i a l) l z58 0 (tokenOf x) _ (fun k out i _ h0 h1 ho => by
    have hb : out.length < 8796093022208 := by omega
    by_cases c : (l.getD i.toNat z58).f1 = x
    · simp only [spec_TokensOf.l0, h0, h1, hb, if_true, wsucc h0 (by omega), rd_T58, tokenOf, c, Option.toList]
    · simp only [spec_TokensOf.l0, h0, h1, hb, if_true, if_false, wsucc h0 (by omega), rd_T58, tokenOf, c, Option.toList, List.append_nil]) (fun k _ => by simp only [spec_TokensOf.l0, Int.lt_irrefl, if_false])
theorem impl_tokens (l : List S58) (x : Int) (h : l.length ≤ 1048576) : From (fun k => impl_TokensOf.l0 k x [] l l.length 0) (l.filterMap (tokenOf x), true) :=
  collect_then (fun k out i => impl_TokensOf.l0 k x out l l.length i) l z58 0 (tokenOf x) _ (fun k out i _ h0 h1 ho => by
    have hb : out.length < 8796093022208 := by omega
    by_cases c : (l.getD i.toNat z58).f1 = x
    · simp only [impl_TokensOf.l0, h0, h1, hb, if_true, wsucc h0 (by omega), rd_T58, tokenOf, c, Option.toList]
    · simp only [impl_TokensOf.l0, h0, h1, hb, if_true, if_false, wsucc h0 (by omega), rd_T58, tokenOf, c, Option.toList, List.append_nil]) (fun k _ => by simp only [impl_TokensOf.l0, Int.lt_irrefl, if_false])
theorem FnExactTokensOf : laws_FnExactTokensOf.Pure := law_post fun a l x h hb => by
  obtain ⟨K1, e1⟩ := l04Is_from a l h hb
  obtain ⟨K2, e2⟩ := ValidPost_from a l h hb
  obtain ⟨K3, e3⟩ := spec_tokens a l x h
  obtain ⟨K4, e4⟩ := impl_tokens l x h
  have hlen : (l.filterMap (tokenOf x)).length ≤ 1048576 := Nat.le_trans (List.length_filterMap_le _ _) h
  have step : ∀ b : Bool, spec_l00In.f x 1 1000 = some b → impl_in.f x 1 1000 = some b := fun b hb => by rw [← in_eq]; exact hb
  cases ho : okPost a l with
  | false =>
    rw [ho] at e1 e2
    refine ⟨([], false), by simp, ⟨K1 + 1, fun k hk => ?_⟩, ⟨K2 + 1, fun k hk => ?_⟩⟩
    · obtain ⟨k, rfl⟩ : ∃ n, k = n + 1 := ⟨k - 1, by omega⟩
      simp only [spec_TokensOf.f, e1 (k + 1) (by omega), Option.bind_some, Bool.false_eq_true, if_false, spec_TokensOf.j0, if_true]
    · obtain ⟨k, rfl⟩ : ∃ n, k = n + 1 := ⟨k - 1, by omega⟩
      simp only [impl_TokensOf.f, e2 (k + 1) (by omega), Option.bind_some, Bool.false_eq_true, if_false, impl_TokensOf.j0, if_true]
  | true =>
    rw [ho] at e1 e2
    by_cases c : 1 ≤ x ∧ x ≤ 1000
    · refine ⟨(l.filterMap (tokenOf x), true), hlen, ⟨K1 + K3 + 1, fun k hk => ?_⟩, ⟨K2 + K4 + 1, fun k hk => ?_⟩⟩
      · obtain ⟨k, rfl⟩ : ∃ n, k = n + 1 := ⟨k - 1, by omega⟩
        simp only [spec_TokensOf.f, e1 (k + 1) (by omega), Option.bind_some, if_true, spec_l02Id.f, in_eq, in_some, c, and_self, decide_true, Bool.not_true, spec_TokensOf.j0, Bool.false_eq_true, if_false]
        exact e3 k (by omega)
      · obtain ⟨k, rfl⟩ : ∃ n, k = n + 1 := ⟨k - 1, by omega⟩
        simp only [impl_TokensOf.f, e2 (k + 1) (by omega), Option.bind_some, if_true, impl_isMember.f, in_some, c, and_self, decide_true, Bool.not_true, impl_TokensOf.j0, Bool.false_eq_true, if_false]
        exact e4 k (by omega)
    · refine ⟨([], false), by simp, ⟨K1 + 1, fun k hk => ?_⟩, ⟨K2 + 1, fun k hk => ?_⟩⟩
      · obtain ⟨k, rfl⟩ : ∃ n, k = n + 1 := ⟨k - 1, by omega⟩
        simp only [spec_TokensOf.f, e1 (k + 1) (by omega), Option.bind_some, if_true, spec_l02Id.f, in_eq, in_some, c, decide_false, Bool.not_false, spec_TokensOf.j0]
      · obtain ⟨k, rfl⟩ : ∃ n, k = n + 1 := ⟨k - 1, by omega⟩
        simp only [impl_TokensOf.f, e2 (k + 1) (by omega), Option.bind_some, if_true, impl_isMember.f, in_some, c, decide_false, Bool.not_false, impl_TokensOf.j0]

end Go.Proofs.Ytgpiaeklhhacjaa.Pure
