/- The program's SendTo returns what the reference's returns, for every post, every set of members and every parcel that can be read. -/
import Derived.Test.YtgpiaeklhhacjaaXFnExactSendTox12
import Derived.Test.YtgpiaeklhhacjaaVFnExactSendToXP
namespace Go.Proofs.Ytgpiaeklhhacjaa.Pure
open Go.RowKit Go.Proofs.Ytgpiaeklhhacjaa.XFnExactSendTo Go.Proofs.YtgpiaeklhhacjaaW.PrintWords Go.Proofs.YtgpiaeklhhacjaaW.PrintLast Go.Proofs.Ytgpiaeklhhacjaa.XP
set_option linter.unusedVariables false
set_option linter.unusedSimpArgs false

def convParcel : S70 → S60 := (fun x : S70 => (⟨x.f0, x.f1⟩ : S60))
theorem toParcelS_from (l : List S70) (h : l.length ≤ 1048576) : From (fun k => laws_toParcelS.f k l) (l.map convParcel) := by
  obtain ⟨K, hK⟩ := fill_all (F := laws_toParcelS.l0) convParcel z70 z60 (fun k xs ys i h0 h1 h2 h3 => by
      simp only [laws_toParcelS.l0, h0, h1, h2, if_true, laws_toParcel.f, Option.bind_some, wsucc h0 h3]; rfl) (fun k xs ys i h => by simp only [laws_toParcelS.l0, h, if_false]) l (by omega)
  refine ⟨K, fun k hk => ?_⟩
  simp only [laws_toParcelS.f, Int.toNat_natCast]
  rw [if_pos (by omega), if_pos (by omega)]
  exact hK k hk
theorem eqParcelS_from (l : List S60) (h : l.length ≤ 1048576) : From (fun k => laws_eqParcelS.f k l l) true := by
  obtain ⟨K, hK⟩ := all_loop (fun k i => laws_eqParcelS.l0 k l l i) l.length (by omega) 0 true (fun k i _ h0 h1 => by
      simp only [laws_eqParcelS.l0, h0, h1, if_true, laws_eqParcel.f, Option.bind_some, wsucc h0 (by omega)]) (fun k i _ h _ => by simp only [laws_eqParcelS.l0, h, if_false])
  refine ⟨K, fun k hk => ?_⟩
  simp only [laws_eqParcelS.f, if_true]
  exact hK k hk
theorem sz_le (n : Nat) (a : Int) (hl : n ≤ 9223372036854775807) (ha : 0 ≤ a) (ha2 : a ≤ 1048576) : wrap64 (a - (n : Int)) = a - n := w64 (by omega) (by omega)
def okBox (b : S115) : Prop := b.f3.length ≤ 1048576 ∧ b.f0.size ≤ 1048576
theorem szBox_tells (n : ByteArray) (x y : Int) (l : List S70) (a : Int) (ha : 0 ≤ a) (ha2 : a ≤ 1048576) (h1 : n.size ≤ 9223372036854775807) (h2 : l.length ≤ 9223372036854775807) :
    ∃ r, laws_szBox.f n x y l a = some r ∧ (r < 0 ∨ (n.size ≤ 1048576 ∧ l.length ≤ 1048576 ∧ 0 ≤ r ∧ r ≤ a)) := by
  unfold laws_szBox.f laws_szParcelS.f
  rw [sz_le n.size a h1 ha ha2]
  by_cases c1 : a - (n.size : Int) < 0
  · rw [if_pos c1]; exact ⟨_, rfl, .inl (by omega)⟩
  rw [if_neg c1, sz_le l.length (a - n.size) h2 (by omega) (by omega)]
  by_cases c2 : a - (n.size : Int) - l.length < 0
  · rw [if_pos c2]; exact ⟨-1, rfl, .inl (by omega)⟩
  rw [if_neg c2, Option.bind_some, if_neg c2]
  exact ⟨_, rfl, .inr (by omega)⟩
theorem szBoxS_tells (l : List S115) (a : Int) (ha : 0 ≤ a) (ha2 : a ≤ 1048576) (h1 : l.length ≤ 9223372036854775807) (hq : ∀ y ∈ l, Q115 y) :
    ∃ r, From (fun k => laws_szBoxS.f k l a) r ∧ (r < 0 ∨ (l.length ≤ 1048576 ∧ (∀ y ∈ l, okBox y) ∧ 0 ≤ r ∧ r ≤ a)) := by
  unfold laws_szBoxS.f
  rw [sz_le l.length a h1 ha ha2]
  by_cases c1 : a - (l.length : Int) < 0
  · simp only [if_pos c1]; exact ⟨-1, from_now fun _ => rfl, .inl (by omega)⟩
  simp only [if_neg c1]
  obtain ⟨r, hr, h⟩ := pay_loop (F := fun k a i => laws_szBoxS.l0 k l a i) l.length (fun j => okBox (l.getD j z115)) (fun a i h0 h2 h3 h4 => by
      have hm := getD_mem z115 (show i.toNat < l.length by omega)
      obtain ⟨t, ht, hc⟩ := szBox_tells (l.getD i.toNat z115).f0 (l.getD i.toNat z115).f1 (l.getD i.toNat z115).f2 (l.getD i.toNat z115).f3 a h3 h4 (hq _ hm).1 (hq _ hm).2.2.2.1
      refine ⟨0, ?_⟩
      rcases hc with hc | ⟨b1, b2, b3, b4⟩
      · left; intro k _; simp only [laws_szBoxS.l0, h0, h2, if_true, rd_T115, ht, Option.bind_some, hc]
      · right; refine ⟨t, b3, b4, ⟨b2, b1⟩, fun k _ => ?_⟩
        have hn : ¬ t < 0 := by omega
        simp only [laws_szBoxS.l0, h0, h2, if_true, rd_T115, ht, Option.bind_some, hn, if_false, wsucc h0 (by omega)]) (fun k a => by simp only [laws_szBoxS.l0, Int.lt_irrefl, if_false]) (a - l.length) (by omega) (by omega)
  refine ⟨r, hr, h.imp id fun ⟨r0, r1, hj⟩ => ⟨by omega, fun y hy => ?_, r0, by omega⟩⟩
  obtain ⟨j, hj2, rfl⟩ := List.mem_iff_getElem.1 hy
  have := hj j hj2
  rwa [List.getD_eq_getElem?_getD, List.getElem?_eq_getElem hj2] at this
theorem szPost_tells (m : Int) (l : List S115) (a : Int) (ha : 0 ≤ a) (ha2 : a ≤ 1048576) (h1 : l.length ≤ 9223372036854775807) (hq : ∀ y ∈ l, Q115 y) :
    ∃ r, From (fun k => laws_szPost.f k m l a) r ∧ (r < 0 ∨ (l.length ≤ 1048576 ∧ (∀ y ∈ l, okBox y) ∧ 0 ≤ r ∧ r ≤ a)) := by
  obtain ⟨r, ⟨K, hK⟩, h⟩ := szBoxS_tells l a ha ha2 h1 hq
  rcases h with h | h
  · exact ⟨-1, ⟨K, fun k hk => by simp only [laws_szPost.f, hK k hk, Option.bind_some, h, if_true]⟩, .inl (by omega)⟩
  · have hn : ¬ r < 0 := by omega
    exact ⟨r, ⟨K, fun k hk => by simp only [laws_szPost.f, hK k hk, Option.bind_some, hn, if_false]⟩, .inr h⟩
def convBox (x : S115) : S58 := ⟨x.f0, x.f1, x.f2, x.f3.map convParcel⟩
theorem toBoxS_from (l : List S115) (h : l.length ≤ 1048576) (hb : ∀ y ∈ l, okBox y) : From (fun k => laws_toBoxS.f k l) (l.map convBox) := by
  obtain ⟨K, hK⟩ := from_all (g := fun k j => laws_toParcelS.f k (l.getD j z115).f3) (fun j => (l.getD j z115).f3.map convParcel) l.length fun j hj => toParcelS_from _ (hb _ (getD_mem _ hj)).1
  obtain ⟨L, hL⟩ := fill_allK (F := fun k ys i => laws_toBoxS.l0 k l ys i) convBox z115 z58 l K (fun k ys i hk h0 h1 h2 => by
      simp only [laws_toBoxS.l0, h0, h1, h2, if_true, laws_toBox.f, rd_T115, hK k hk i.toNat (by omega), Option.bind_some, wsucc h0 (by omega)]; rfl) (fun k ys i _ h => by simp only [laws_toBoxS.l0, h, if_false])
  refine ⟨L, fun k hk => ?_⟩
  simp only [laws_toBoxS.f, Int.toNat_natCast]
  rw [if_pos (by omega), if_pos (by omega)]
  exact hL k hk
def okB (b : S58) : Prop := b.f3.length ≤ 1048576
theorem eqBoxS_from (l : List S58) (h : l.length ≤ 1048576) (hb : ∀ y ∈ l, okB y) : From (fun k => laws_eqBoxS.f k l l) true := by
  obtain ⟨K, hK⟩ := from_all (g := fun k j => laws_eqParcelS.f k (l.getD j z58).f3 (l.getD j z58).f3) (fun j => true) l.length fun j hj => eqParcelS_from _ (hb _ (getD_mem _ hj))
  obtain ⟨L, hL⟩ := all_loop (fun k i => laws_eqBoxS.l0 k l l i) l.length (by omega) K true (fun k i hk h0 h1 => by
      simp only [laws_eqBoxS.l0, h0, h1, if_true, laws_eqBox.f, rd_T58, hK k hk i.toNat (by omega), Option.bind_some, wsucc h0 (by omega)]) (fun k i _ h _ => by simp only [laws_eqBoxS.l0, h, if_false])
  refine ⟨L, fun k hk => ?_⟩
  simp only [laws_eqBoxS.f, if_true]
  exact hL k hk
theorem okB_conv {l : List S115} (hb : ∀ y ∈ l, okBox y) : ∀ y ∈ l.map convBox, okB y := by
  intro y hy
  obtain ⟨x, hx, rfl⟩ := List.mem_map.1 hy
  simpa [okB, convBox] using (hb x hx).1
theorem toPost_from (m : Int) (l : List S115) (h : l.length ≤ 1048576) (hb : ∀ y ∈ l, okBox y) : From (fun k => laws_toPost.f k m l) (m, l.map convBox) := by
  obtain ⟨K, hK⟩ := toBoxS_from l h hb
  exact ⟨K, fun k hk => by simp only [laws_toPost.f, hK k hk, Option.bind_some]⟩
theorem eqPost_from (m : Int) (l : List S58) (h : l.length ≤ 1048576) (hb : ∀ y ∈ l, okB y) : From (fun k => laws_eqPost.f k m l m l) true := by
  obtain ⟨K, hK⟩ := eqBoxS_from l h hb
  exact ⟨K, fun k hk => by simp only [laws_eqPost.f, hK k hk, Option.bind_some, if_true]⟩
theorem in_eq (a b c : Int) : spec_l00In.f a b c = impl_in.f a b c := rfl
theorem in_some (a b c : Int) : impl_in.f a b c = some (decide (b ≤ a ∧ a ≤ c)) := by
  unfold impl_in.f
  split
  · congr 1; rw [decide_eq_decide]; omega
  · congr 1; symm; rw [decide_eq_false_iff_not]; omega

def okP (p : S60) : Bool := decide (1 ≤ p.f0 ∧ p.f0 ≤ 1000) && decide (1 ≤ p.f1 ∧ p.f1 ≤ 1000000)
def okPs (l : List S60) : Bool := decide (l.length ≤ 64) && (List.range l.length).all fun j => okP (l.getD j z60)
theorem l04Parcel_some (p : S60) : spec_l04Parcel.f p.f0 p.f1 = some (okP p) := by
  simp only [spec_l04Parcel.f, in_eq, in_some, Option.bind_some, okP]
  by_cases h : 1 ≤ p.f0 ∧ p.f0 ≤ 1000 <;> simp [h]
theorem parcelOk_some (p : S60) : impl_parcelOk.f p.f0 p.f1 = some (okP p) := by
  simp only [impl_parcelOk.f, in_some, Option.bind_some, okP]
  by_cases h : 1 ≤ p.f0 ∧ p.f0 ≤ 1000 <;> simp [h]
theorem l04Parcels_from (l : List S60) (h : l.length ≤ 1048576) : From (fun k => spec_l04Parcels.f k l) (okPs l) := by
  by_cases hl : l.length ≤ 64
  · have hli : (l.length : Int) ≤ 64 := by omega
    obtain ⟨K, hK⟩ := test_loopC (fun k i => spec_l04Parcels.l0 k l i) 2 l.length 0 (fun j => okP (l.getD j z60)) true (fun k i _ h0 h1 => by
      simp only [spec_l04Parcels.l0, spec_l04Parcels.j1, h0, h1, hli, if_true, decide_true, rd_T60, l04Parcel_some, Option.bind_some, wsucc h0 (by omega)]) (fun k _ => by
      simp only [spec_l04Parcels.l0, spec_l04Parcels.j1, Int.lt_irrefl, if_false, Bool.false_eq_true, hli, decide_true])
    exact ⟨K, fun k hk => by simpa [okPs, hl, spec_l04Parcels.f] using hK k hk⟩
  · have hli : ¬ (l.length : Int) ≤ 64 := by omega
    refine ⟨2, fun k hk => ?_⟩
    obtain ⟨k, rfl⟩ : ∃ n, k = n + 2 := ⟨k - 2, by omega⟩
    have h1 : (0 : Int) < l.length := by omega
    simp only [spec_l04Parcels.f, spec_l04Parcels.l0, spec_l04Parcels.j1, h1, hli, if_true, decide_false, Bool.false_eq_true, if_false, okPs, hl, Bool.false_and]
theorem parcelsOk_from (l : List S60) (h : l.length ≤ 1048576) : From (fun k => impl_parcelsOk.f k l) (okPs l) := by
  by_cases hl : l.length ≤ 64
  · have hli : (l.length : Int) ≤ 64 := by omega
    obtain ⟨K, hK⟩ := test_loopB (fun k i => (impl_Parcel_badParcel_161.l0 k l l.length i).bind fun t => some (!(decide (t ≥ 0)))) l.length 0 (fun j => okP (l.getD j z60)) true (fun k i _ h0 h1 => by
      simp only [impl_Parcel_badParcel_161.l0, impl_badParcel.f, h0, h1, if_true, rd_T60, parcelOk_some, Option.bind_some, wsucc h0 (by omega)]
      rcases Bool.eq_false_or_eq_true (okP (l.getD i.toNat z60)) with c | c <;> simp [c, h0, -List.getD_eq_getElem?_getD]) (fun k _ => by
      simp only [impl_Parcel_badParcel_161.l0, Int.lt_irrefl, if_false, Option.bind_some]
      rfl)
    refine ⟨K, fun k hk => ?_⟩
    have := hK k hk
    simp only [impl_parcelsOk.f, impl_Parcel_badParcel_162.f, impl_Parcel_badParcel_161.f, hli, if_true]
    cases he : impl_Parcel_badParcel_161.l0 k l l.length 0 with
    | none => rw [he] at this; cases this
    | some t =>
      rw [he] at this
      simpa [okPs, hl] using this
  · have hli : ¬ (l.length : Int) ≤ 64 := by omega
    exact ⟨0, fun k hk => by simp only [impl_parcelsOk.f, hli, if_false, okPs, hl, decide_false, Bool.false_and]⟩
def boxB (m : Int) (b : S58) : Bool := decide ((b.f0.size : Int) = 16) && (decide (1 ≤ b.f1 ∧ b.f1 ≤ 1000) && (decide (0 ≤ b.f2 ∧ b.f2 ≤ 1000000000) && (okPs b.f3 && decide ((b.f3.length : Int) ≤ m))))
def okAt (m : Int) (l : List S58) (j : Nat) : Bool := boxB m (l.getD j z58) && (decide (j = 0) || Op.bytesLess (l.getD (j - 1) z58).f0.toList (l.getD j z58).f0.toList)
def okPost (m : Int) (l : List S58) : Bool := decide (1 ≤ m ∧ m ≤ 64) && (decide (l.length ≤ 32) && (List.range l.length).all (okAt m l))
theorem prev_at {i : Int} (h0 : 0 ≤ i) (h1 : i ≤ 4611686018427387904) (hp : i > 0) : wrap64 (i - 1) = i - 1 ∧ (i - 1).toNat = i.toNat - 1 ∧ 0 ≤ i - 1 := ⟨wpred h0 h1, by omega, by omega⟩
theorem l04Is_from (m : Int) (l : List S58) (h : l.length ≤ 1048576) (hb : ∀ y ∈ l, okB y) : From (fun k => spec_l04Is.f k m l) (okPost m l) := by
  have j0 : ∀ k, spec_l04Is.j0 (k + 1) true m l = some false := fun k => by simp only [spec_l04Is.j0, if_true]
  by_cases hm : 1 ≤ m ∧ m ≤ 64
  · by_cases hl : l.length ≤ 32
    · have hli : ¬ (l.length : Int) > 32 := by omega
      obtain ⟨K, hK⟩ := from_all (g := fun k j => spec_l04Parcels.f k (l.getD j z58).f3) (fun j => okPs (l.getD j z58).f3) l.length fun j hj => l04Parcels_from _ (hb _ (getD_mem _ hj))
      obtain ⟨L, hL⟩ := test_loopC (fun k i => spec_l04Is.l0 k i m l) 2 l.length K (okAt m l) true (fun k i hk h0 h1 => by
        have w := hK (k + 1) (by omega) i.toNat (by omega)
        have hlim : ((l.getD i.toNat z58).f3.length : Int) ≤ m ↔ ¬ ((l.getD i.toNat z58).f3.length : Int) > m := by omega
        simp only [spec_l04Is.l0, spec_l04Is.j2, spec_l02Id.f, in_eq, in_some, h0, h1, if_true, rd_T58, Option.bind_some, w, wsucc h0 (by omega), okAt, boxB, hlim]
        obtain ⟨b, hbx⟩ : ∃ b, l.getD i.toNat z58 = b := ⟨_, rfl⟩
        simp only [hbx]
        by_cases c0 : (b.f0.size : Int) = 16
        · by_cases c1 : 1 ≤ b.f1 ∧ b.f1 ≤ 1000
          · by_cases c2 : 0 ≤ b.f2 ∧ b.f2 ≤ 1000000000
            · rcases Bool.eq_false_or_eq_true (okPs b.f3) with c3 | c3
              · by_cases c4 : (b.f3.length : Int) > m
                · simp [c0, c1, c2, c3, c4]
                · by_cases c5 : i > 0
                  · obtain ⟨p1, p2, p3⟩ := prev_at h0 (by omega) c5
                    have p4 : i - 1 < l.length := by omega
                    have p5 : ¬ i.toNat = 0 := by omega
                    simp only [c0, c1, c2, c3, c4, c5, p1, p2, p3, p4, p5, if_true, if_false, decide_true, decide_false, and_self, not_false_eq_true, Bool.true_and, Bool.and_true, Bool.false_or, Bool.not_true, Bool.false_eq_true]
                  · have p5 : i.toNat = 0 := by omega
                    simp only [c0, c1, c2, c3, c4, c5, p5, if_true, if_false, decide_true, decide_false, and_self, not_false_eq_true, Bool.true_and, Bool.and_true, Bool.true_or, Bool.not_true, Bool.false_eq_true]
              · simp [c0, c1, c2, c3]
            · simp [c0, c1, c2]
          · simp [c0, c1]
        · simp [c0]) (fun k _ => by simp only [spec_l04Is.l0, Int.lt_irrefl, if_false])
      refine ⟨L + 1, fun k hk => ?_⟩
      obtain ⟨k, rfl⟩ : ∃ n, k = n + 1 := ⟨k - 1, by omega⟩
      simp only [spec_l04Is.f, in_eq, in_some, hm, Option.bind_some, hli, decide_true, decide_false, if_true, spec_l04Is.j0, Bool.false_eq_true, if_false, and_self, hL k (by omega), okPost, hl, Bool.true_and, Bool.and_true]
    · have hli : (l.length : Int) > 32 := by omega
      refine ⟨1, fun k hk => ?_⟩
      obtain ⟨k, rfl⟩ : ∃ n, k = n + 1 := ⟨k - 1, by omega⟩
      simp only [spec_l04Is.f, in_eq, in_some, hm, Option.bind_some, hli, decide_true, if_true, j0, okPost, hl, and_self, decide_false, Bool.true_and, Bool.false_and]
  · refine ⟨1, fun k hk => ?_⟩
    obtain ⟨k, rfl⟩ : ∃ n, k = n + 1 := ⟨k - 1, by omega⟩
    simp only [spec_l04Is.f, in_eq, in_some, hm, Option.bind_some, decide_false, Bool.false_eq_true, if_false, j0, okPost, Bool.false_and]
theorem ValidPost_from (m : Int) (l : List S58) (h : l.length ≤ 1048576) (hb : ∀ y ∈ l, okB y) : From (fun k => impl_ValidPost.f k m l) (okPost m l) := by
  have j0 : ∀ k, impl_ValidPost.j0 (k + 1) true m l = some false := fun k => by simp only [impl_ValidPost.j0, if_true]
  by_cases hm : 1 ≤ m ∧ m ≤ 64
  · by_cases hl : l.length ≤ 32
    · have hli : ¬ (l.length : Int) > 32 := by omega
      obtain ⟨K, hK⟩ := from_all (g := fun k j => impl_parcelsOk.f k (l.getD j z58).f3) (fun j => okPs (l.getD j z58).f3) l.length fun j hj => parcelsOk_from _ (hb _ (getD_mem _ hj))
      obtain ⟨L, hL⟩ := test_loopC (fun k i => impl_ValidPost.l0 k l l.length i m l) 2 l.length K (okAt m l) true (fun k i hk h0 h1 => by
        have w := hK (k + 1) (by omega) i.toNat (by omega)
        have hlim : ((l.getD i.toNat z58).f3.length : Int) ≤ m ↔ ¬ ((l.getD i.toNat z58).f3.length : Int) > m := by omega
        simp only [impl_ValidPost.l0, impl_ValidPost.j2, impl_isMember.f, impl_IsToken.f, in_some, h0, h1, if_true, rd_T58, Option.bind_some, w, wsucc h0 (by omega), okAt, boxB, hlim]
        obtain ⟨b, hbx⟩ : ∃ b, l.getD i.toNat z58 = b := ⟨_, rfl⟩
        simp only [hbx]
        by_cases c0 : (b.f0.size : Int) = 16
        · by_cases c1 : 1 ≤ b.f1 ∧ b.f1 ≤ 1000
          · by_cases c2 : 0 ≤ b.f2 ∧ b.f2 ≤ 1000000000
            · by_cases c4 : (b.f3.length : Int) > m
              · simp [c0, c1, c2, c4]
              · rcases Bool.eq_false_or_eq_true (okPs b.f3) with c3 | c3
                · by_cases c5 : i > 0
                  · obtain ⟨p1, p2, p3⟩ := prev_at h0 (by omega) c5
                    have p4 : i - 1 < l.length := by omega
                    have p5 : ¬ i.toNat = 0 := by omega
                    simp only [c0, c1, c2, c3, c4, c5, p1, p2, p3, p4, p5, if_true, if_false, decide_true, decide_false, and_self, not_false_eq_true, Bool.true_and, Bool.and_true, Bool.false_or, Bool.not_true, Bool.false_eq_true, beq_self_eq_true]
                  · have p5 : i.toNat = 0 := by omega
                    simp only [c0, c1, c2, c3, c4, c5, p5, if_true, if_false, decide_true, decide_false, and_self, not_false_eq_true, Bool.true_and, Bool.and_true, Bool.true_or, Bool.not_true, Bool.false_eq_true, beq_self_eq_true]
                · simp [c0, c1, c2, c3, c4]
            · simp [c0, c1, c2]
          · simp [c0, c1]
        · simp [c0]) (fun k _ => by simp only [impl_ValidPost.l0, Int.lt_irrefl, if_false])
      refine ⟨L + 1, fun k hk => ?_⟩
      obtain ⟨k, rfl⟩ : ∃ n, k = n + 1 := ⟨k - 1, by omega⟩
      simp only [impl_ValidPost.f, in_some, hm, Option.bind_some, hli, decide_true, decide_false, if_true, impl_ValidPost.j0, Bool.false_eq_true, if_false, and_self, hL k (by omega), okPost, hl, Bool.true_and, Bool.and_true]
    · have hli : (l.length : Int) > 32 := by omega
      refine ⟨1, fun k hk => ?_⟩
      obtain ⟨k, rfl⟩ : ∃ n, k = n + 1 := ⟨k - 1, by omega⟩
      simp only [impl_ValidPost.f, in_some, hm, Option.bind_some, hli, decide_true, if_true, j0, okPost, hl, and_self, decide_false, Bool.true_and, Bool.false_and]
  · refine ⟨1, fun k hk => ?_⟩
    obtain ⟨k, rfl⟩ : ∃ n, k = n + 1 := ⟨k - 1, by omega⟩
    simp only [impl_ValidPost.f, in_some, hm, Option.bind_some, decide_false, Bool.false_eq_true, if_false, j0, okPost, Bool.false_and]
theorem markParcelS_from (l : List S60) (m : Int) (hm : 0 ≤ m) (hb : m ≤ 1152921504606846976) (h : l.length ≤ 1048576) :
    ∃ ys, From (fun k => laws_markParcelS.f k l m) (m + 2 * l.length, ys) ∧ ys.length = l.length ∧ ∀ j : Nat, j < l.length → ys[j]? = some (⟨m + 2 * j, m + 2 * j + 1⟩ : S60) :=
  mark_all (F := fun k xs m i => laws_markParcelS.l0 k xs m i) 2 (by omega) (by omega) (fun m => (⟨m, m + 1⟩ : S60)) (fun k xs m i h0 h1 h2 h3 h4 => by
    have hi : i.toNat < xs.length := by omega
    simp only [laws_markParcelS.l0, h0, h1, if_true, wsucc h0 h2, Option.bind_some, rd_T60, getD_set hi, List.set_set, List.length_set, wsucc (show 0 ≤ m by omega) (by omega), wsucc (show 0 ≤ m + 1 by omega) (by omega)]
    congr 1; omega) (fun k xs m i h => by simp only [laws_markParcelS.l0, h, if_false]) l m hm (by have := mul_mono (c := 2) (by omega) h; omega) (by omega)
theorem strOf_one (v : Int) : (strOfNums [v]).size = 1 := rfl
theorem markText_rounds : ∀ (m : Nat) (x : Int) (s : ByteArray), 0 ≤ x → x.toNat ≤ m → s.size + m ≤ 4611686018427387904 → ∃ r, ∀ k, m < k → laws_markText.l0 k x s = some r := by
  intro m
  induction m with
  | zero =>
    intro x s h0 h1 h2
    have hx : ¬ x > 0 := by omega
    have hs : 1 + s.size ≤ 9223372036854775807 := by omega
    refine ⟨(⟨#[109]⟩ : ByteArray) ++ s, fun k hk => ?_⟩
    obtain ⟨k, rfl⟩ : ∃ n, k = n + 1 := ⟨k - 1, by omega⟩
    simp only [laws_markText.l0, hx, hs, if_true, if_false]
  | succ m ih =>
    intro x s h0 h1 h2
    by_cases hx : x > 0
    · have hd : Int.tdiv x 10 = x / 10 := Int.tdiv_eq_ediv_of_nonneg h0
      have hw : wrap64 (Int.tdiv x 10) = x / 10 := by rw [hd]; exact w64 (by omega) (by omega)
      have hz : (strOfNums [(wrap64 (48 + (Int.tmod x 10))) % 256]).size + s.size ≤ 9223372036854775807 := by rw [strOf_one]; omega
      obtain ⟨r, hr⟩ := ih (x / 10) ((strOfNums [(wrap64 (48 + (Int.tmod x 10))) % 256]) ++ s) (by omega) (by omega) (by rw [ByteArray.size_append, strOf_one]; omega)
      refine ⟨r, fun k hk => ?_⟩
      obtain ⟨k, rfl⟩ : ∃ n, k = n + 1 := ⟨k - 1, by omega⟩
      simp only [laws_markText.l0, hx, if_true, Option.bind_some, hz, hw]
      exact hr k (by omega)
    · have hs : 1 + s.size ≤ 9223372036854775807 := by omega
      refine ⟨(⟨#[109]⟩ : ByteArray) ++ s, fun k hk => ?_⟩
      obtain ⟨k, rfl⟩ : ∃ n, k = n + 1 := ⟨k - 1, by omega⟩
      simp only [laws_markText.l0, hx, hs, if_true, if_false]
theorem markText_from (x : Int) (h0 : 0 ≤ x) (h : x ≤ 1099511627776000) : ∃ s, From (fun k => laws_markText.f k x) s := by
  by_cases hx : x ≤ 0
  · exact ⟨(⟨#[109, 48]⟩ : ByteArray), from_now fun k => by simp only [laws_markText.f, hx, if_true]⟩
  · obtain ⟨r, hr⟩ := markText_rounds x.toNat x (⟨#[]⟩ : ByteArray) h0 (Nat.le_refl _) (by show 0 + x.toNat ≤ _; omega)
    exact ⟨r, x.toNat + 1, fun k hk => by simp only [laws_markText.f, hx, if_false]; exact hr k (by omega)⟩
theorem okB_set {l : List S58} {i : Nat} {b : S58} (h : ∀ y ∈ l, okB y) (hb : okB b) : ∀ y ∈ l.set i b, okB y := fun y hy => by
  rcases List.mem_or_eq_of_mem_set hy with h1 | h1
  · exact h y h1
  · rw [h1]; exact hb
theorem rd_set_box (xs : List S58) (i : Int) (b : S58) (h : i.toNat < xs.length) : rd_T58 (xs.set i.toNat b) i = b := getD_set h
theorem markBoxS_rounds : ∀ (n : Nat) (xs : List S58) (m i : Int), 0 ≤ i → i ≤ xs.length → xs.length ≤ 1048576 → (xs.length : Int) - i = n → 0 ≤ m → m + 2097155 * (n : Int) ≤ 4398046511104 → (∀ y ∈ xs, okB y) → ∃ r, From (fun k => laws_markBoxS.l0 k xs m i) r ∧ 0 ≤ r.1 := by
  intro n
  induction n with
  | zero =>
    intro xs m i h0 h1 hx hn hm hb ho
    have hi : ¬ i < (xs.length : Int) := by omega
    refine ⟨(m, xs), ⟨1, fun k hk => ?_⟩, hm⟩
    obtain ⟨k, rfl⟩ : ∃ n, k = n + 1 := ⟨k - 1, by omega⟩
    simp only [laws_markBoxS.l0, hi, if_false]
  | succ n ih =>
    intro xs m i h0 h1 hx hn hm hb ho
    have hi : i < (xs.length : Int) := by omega
    have hin : i.toNat < xs.length := by omega
    have w1 : wrap64 (m + 1) = m + 1 := wsucc hm (by omega)
    have w2 : wrap64 (m + 1 + 1) = m + 1 + 1 := wsucc (by omega) (by omega)
    have w3 : wrap64 (m + 1 + 1 + 1) = m + 1 + 1 + 1 := wsucc (by omega) (by omega)
    have w4 : wrap64 (i + 1) = i + 1 := wsucc h0 (by omega)
    obtain ⟨s, ⟨K1, e1⟩⟩ := markText_from m hm (by omega)
    have hr : ∀ b, rd_T58 (xs.set i.toNat b) i = b := fun b => rd_set_box xs i b hin
    generalize hb0 : (rd_T58 xs i) = b0
    have hok0 : okB b0 := by rw [← hb0]; exact ho _ (getD_mem _ hin)
    have hl0 : b0.f3.length ≤ 1048576 := hok0
    obtain ⟨ys, ⟨K2, e2⟩, hys, _⟩ := markParcelS_from b0.f3 (m + 1 + 1 + 1) (by omega) (by omega) hok0
    obtain ⟨r, ⟨K3, e3⟩, hr2⟩ := ih (xs.set i.toNat ⟨s, m + 1, m + 1 + 1, ys⟩) (m + 1 + 1 + 1 + 2 * b0.f3.length) (i + 1) (by omega) (by simp; omega) (by simpa using hx) (by simp; omega) (by omega) (by omega) (okB_set ho (by show ys.length ≤ _; rw [hys]; exact hok0))
    refine ⟨r, ⟨K1 + K2 + K3 + 1, fun k hk => ?_⟩, hr2⟩
    obtain ⟨k, rfl⟩ : ∃ n, k = n + 1 := ⟨k - 1, by omega⟩
    have E2 : laws_markParcelS.f k b0.f3 (m + 1 + 1 + 1) = some (m + 1 + 1 + 1 + 2 * b0.f3.length, ys) := by
      simp only [laws_markParcelS.f]
      exact e2 k (by omega)
    simp only [laws_markBoxS.l0, hi, h0, if_true, e1 k (by omega), Option.bind_some, hr, List.set_set, hb0, w1, w2, w3, w4, E2]
    exact e3 k (by omega)
theorem markPost_from (a : Int) (l : List S58) (h : l.length ≤ 1048576) (hb : ∀ y ∈ l, okB y) : ∃ r, From (fun k => laws_markPost.f k a l 1) r ∧ ¬ r.1 < 0 := by
  obtain ⟨r, ⟨K, e⟩, hr⟩ := markBoxS_rounds l.length l 1 0 (by omega) (by omega) h (by omega) (by omega) (by omega) hb
  refine ⟨r, ⟨K, fun k hk => ?_⟩, by omega⟩
  simp only [laws_markPost.f, laws_markBoxS.f, e k hk, Option.bind_some]
theorem markBoxS_upto : ∀ (n : Nat) (xs : List S58) (m i : Int), 0 ≤ i → i ≤ xs.length → xs.length ≤ 1048576 → (xs.length : Int) - i = n → 0 ≤ m → m + 2097155 * (n : Int) ≤ 4398046511104 → (∀ y ∈ xs, okB y) → ∃ r, From (fun k => laws_markBoxS.l0 k xs m i) r ∧ 0 ≤ r.1 ∧ r.1 ≤ 4398046511104 := by
  intro n
  induction n with
  | zero =>
    intro xs m i h0 h1 hx hn hm hb ho
    have hi : ¬ i < (xs.length : Int) := by omega
    refine ⟨(m, xs), ⟨1, fun k hk => ?_⟩, hm, by show m ≤ _; omega⟩
    obtain ⟨k, rfl⟩ : ∃ n, k = n + 1 := ⟨k - 1, by omega⟩
    simp only [laws_markBoxS.l0, hi, if_false]
  | succ n ih =>
    intro xs m i h0 h1 hx hn hm hb ho
    have hi : i < (xs.length : Int) := by omega
    have hin : i.toNat < xs.length := by omega
    have w1 : wrap64 (m + 1) = m + 1 := wsucc hm (by omega)
    have w2 : wrap64 (m + 1 + 1) = m + 1 + 1 := wsucc (by omega) (by omega)
    have w3 : wrap64 (m + 1 + 1 + 1) = m + 1 + 1 + 1 := wsucc (by omega) (by omega)
    have w4 : wrap64 (i + 1) = i + 1 := wsucc h0 (by omega)
    obtain ⟨s, ⟨K1, e1⟩⟩ := markText_from m hm (by omega)
    have hr : ∀ b, rd_T58 (xs.set i.toNat b) i = b := fun b => rd_set_box xs i b hin
    generalize hb0 : (rd_T58 xs i) = b0
    have hok0 : okB b0 := by rw [← hb0]; exact ho _ (getD_mem _ hin)
    have hl0 : b0.f3.length ≤ 1048576 := hok0
    obtain ⟨ys, ⟨K2, e2⟩, hys, _⟩ := markParcelS_from b0.f3 (m + 1 + 1 + 1) (by omega) (by omega) hok0
    obtain ⟨r, ⟨K3, e3⟩, hr2⟩ := ih (xs.set i.toNat ⟨s, m + 1, m + 1 + 1, ys⟩) (m + 1 + 1 + 1 + 2 * b0.f3.length) (i + 1) (by omega) (by simp; omega) (by simpa using hx) (by simp; omega) (by omega) (by omega) (okB_set ho (by show ys.length ≤ _; rw [hys]; exact hok0))
    refine ⟨r, ⟨K1 + K2 + K3 + 1, fun k hk => ?_⟩, hr2⟩
    obtain ⟨k, rfl⟩ : ∃ n, k = n + 1 := ⟨k - 1, by omega⟩
    have E2 : laws_markParcelS.f k b0.f3 (m + 1 + 1 + 1) = some (m + 1 + 1 + 1 + 2 * b0.f3.length, ys) := by
      simp only [laws_markParcelS.f]
      exact e2 k (by omega)
    simp only [laws_markBoxS.l0, hi, h0, if_true, e1 k (by omega), Option.bind_some, hr, List.set_set, hb0, w1, w2, w3, w4, E2]
    exact e3 k (by omega)
theorem markPost_upto (a : Int) (l : List S58) (h : l.length ≤ 1048576) (hb : ∀ y ∈ l, okB y) : ∃ r, From (fun k => laws_markPost.f k a l 1) r ∧ 0 ≤ r.1 ∧ r.1 ≤ 4398046511104 := by
  obtain ⟨r, ⟨K, e⟩, hr⟩ := markBoxS_upto l.length l 1 0 (by omega) (by omega) h (by omega) (by omega) (by omega) hb
  refine ⟨r, ⟨K, fun k hk => ?_⟩, hr⟩
  simp only [laws_markPost.f, laws_markBoxS.f, e k hk, Option.bind_some]
theorem heldParcelS_from (ys : List S60) (m : Int) (hm : 0 ≤ m) (hb : m ≤ 1152921504606846976) (h : ys.length ≤ 1048576) (hy : ∀ j : Nat, j < ys.length → ys[j]? = some (⟨m + 2 * j, m + 2 * j + 1⟩ : S60)) :
    From (fun k => laws_heldParcelS.f k ys m) (m + 2 * ys.length) := by
  obtain ⟨K, hK⟩ := all_loop (fun k i => laws_heldParcelS.l0 k ys (m + 2 * i) i) ys.length (by omega) 0 (m + 2 * ys.length) (fun k i _ h0 h1 => by
      have hin : i.toNat < ys.length := by omega
      have hr : rd_T60 ys i = (⟨m + 2 * i, m + 2 * i + 1⟩ : S60) := by
        have := hy i.toNat hin
        show ys.getD i.toNat z60 = _
        rw [List.getD_eq_getElem?_getD, this, Option.getD_some, show (i.toNat : Int) = i by omega]
      simp only [laws_heldParcelS.l0, h0, h1, if_true, hr, wsucc h0 (by omega), wsucc (show 0 ≤ m + 2 * i by omega) (by omega), wsucc (show 0 ≤ m + 2 * i + 1 by omega) (by omega)]
      congr 1; omega) (fun k i _ h he => by subst he; simp only [laws_heldParcelS.l0, h, if_false])
  refine ⟨K, fun k hk => ?_⟩
  simp only [laws_heldParcelS.f]
  have := hK k hk
  simpa using this
theorem markBoxS_held : ∀ (n : Nat) (xs : List S58) (m i : Int), 0 ≤ i → i ≤ xs.length → xs.length ≤ 1048576 → (xs.length : Int) - i = n → 0 ≤ m → m + 2097155 * (n : Int) ≤ 4398046511104 → (∀ y ∈ xs, okB y) → ∃ r : Int × List S58, From (fun k => laws_markBoxS.l0 k xs m i) r ∧ 0 ≤ r.1 ∧ r.2.length = xs.length ∧ (∀ j : Nat, (j : Int) < i → r.2[j]? = xs[j]?) ∧ From (fun k => laws_heldBoxS.l0 k r.2 m i) r.1 := by
  intro n
  induction n with
  | zero =>
    intro xs m i h0 h1 hx hn hm hb ho
    have hi : ¬ i < (xs.length : Int) := by omega
    refine ⟨(m, xs), ⟨1, fun k hk => ?_⟩, hm, rfl, fun _ _ => rfl, ⟨1, fun k hk => ?_⟩⟩
    · obtain ⟨k, rfl⟩ : ∃ n, k = n + 1 := ⟨k - 1, by omega⟩
      simp only [laws_markBoxS.l0, hi, if_false]
    · obtain ⟨k, rfl⟩ : ∃ n, k = n + 1 := ⟨k - 1, by omega⟩
      simp only [laws_heldBoxS.l0, hi, if_false]
  | succ n ih =>
    intro xs m i h0 h1 hx hn hm hb ho
    have hi : i < (xs.length : Int) := by omega
    have hin : i.toNat < xs.length := by omega
    have w1 : wrap64 (m + 1) = m + 1 := wsucc hm (by omega)
    have w2 : wrap64 (m + 1 + 1) = m + 1 + 1 := wsucc (by omega) (by omega)
    have w3 : wrap64 (m + 1 + 1 + 1) = m + 1 + 1 + 1 := wsucc (by omega) (by omega)
    have w4 : wrap64 (i + 1) = i + 1 := wsucc h0 (by omega)
    obtain ⟨s, ⟨K1, e1⟩⟩ := markText_from m hm (by omega)
    have hr : ∀ b, rd_T58 (xs.set i.toNat b) i = b := fun b => rd_set_box xs i b hin
    generalize hb0 : (rd_T58 xs i) = b0
    have hok0 : okB b0 := by rw [← hb0]; exact ho _ (getD_mem _ hin)
    have hl0 : b0.f3.length ≤ 1048576 := hok0
    obtain ⟨ys, ⟨K2, e2⟩, hys, hyy⟩ := markParcelS_from b0.f3 (m + 1 + 1 + 1) (by omega) (by omega) hok0
    obtain ⟨K4, e4⟩ := heldParcelS_from ys (m + 1 + 1 + 1) (by omega) (by omega) (by omega) (fun j hj => by rw [hyy j (by omega)])
    obtain ⟨r, ⟨K3, e3⟩, hr2, hrl, hrk, ⟨K5, e5⟩⟩ := ih (xs.set i.toNat ⟨s, m + 1, m + 1 + 1, ys⟩) (m + 1 + 1 + 1 + 2 * b0.f3.length) (i + 1) (by omega) (by simp; omega) (by simpa using hx) (by simp; omega) (by omega) (by omega) (okB_set ho (by show ys.length ≤ _; rw [hys]; exact hok0))
    rw [List.length_set] at hrl
    have hat : rd_T58 r.2 i = ⟨s, m + 1, m + 1 + 1, ys⟩ := by
      have := hrk i.toNat (by omega)
      show r.2.getD i.toNat z58 = _
      rw [List.getD_eq_getElem?_getD, this, List.getElem?_set_self hin]
      rfl
    refine ⟨r, ⟨K1 + K2 + K3 + 1, fun k hk => ?_⟩, hr2, hrl, fun j hj => ?_, ⟨K1 + K4 + K5 + 1, fun k hk => ?_⟩⟩
    · obtain ⟨k, rfl⟩ : ∃ n, k = n + 1 := ⟨k - 1, by omega⟩
      have E2 : laws_markParcelS.f k b0.f3 (m + 1 + 1 + 1) = some (m + 1 + 1 + 1 + 2 * b0.f3.length, ys) := by
        simp only [laws_markParcelS.f]
        exact e2 k (by omega)
      simp only [laws_markBoxS.l0, hi, h0, if_true, e1 k (by omega), Option.bind_some, hr, List.set_set, hb0, w1, w2, w3, w4, E2]
      exact e3 k (by omega)
    · rw [hrk j (by omega), List.getElem?_set_ne (by omega)]
    · obtain ⟨k, rfl⟩ : ∃ n, k = n + 1 := ⟨k - 1, by omega⟩
      have hi2 : i < (r.2.length : Int) := by omega
      have E4 := e4 k (by omega)
      rw [hys] at E4
      have hng : ¬ (m + 1 + 1 + 1 + 2 * (b0.f3.length : Int)) < 0 := by omega
      simp only [laws_heldBoxS.l0, hi2, h0, if_true, e1 k (by omega), Option.bind_some, hat, w1, w2, w3, w4, E4, hng, if_false]
      exact e5 k (by omega)
theorem markPost_held (a : Int) (l : List S58) (h : l.length ≤ 1048576) (hb : ∀ y ∈ l, okB y) : ∃ m l', From (fun k => laws_markPost.f k a l 1) (m, l') ∧ 0 ≤ m ∧ From (fun k => laws_heldPost.f k a l' 1) m := by
  obtain ⟨r, ⟨K, e⟩, hr, _, _, ⟨K2, e2⟩⟩ := markBoxS_held l.length l 1 0 (by omega) (by omega) h (by omega) (by omega) (by omega) hb
  refine ⟨r.1, r.2, ⟨K, fun k hk => ?_⟩, hr, ⟨K2, fun k hk => ?_⟩⟩
  · simp only [laws_markPost.f, laws_markBoxS.f, e k hk, Option.bind_some]
  · have hn : ¬ r.1 < 0 := by omega
    simp only [laws_heldPost.f, laws_heldBoxS.f, e2 k hk, Option.bind_some, hn, if_false]
theorem gAt {α : Type} {l : List α} {i : Nat} {z : α} (h : i < l.length) : l.getD i z = l[i] := by rw [List.getD_eq_getElem?_getD, List.getElem?_eq_getElem h]; rfl
theorem app_loop {α β ρ : Type} (F : Nat → Int → List β → Option ρ) (l : List α) (z : α) (g : α → List β) (hg : ∀ x, (g x).length ≤ 1) (K : Nat) (r : ρ) (hl : l.length ≤ 1048576)
    (hstep : ∀ (k : Nat) (i : Int) (out : List β), K ≤ k → 0 ≤ i → i < l.length → out.length ≤ 1048576 → F (k + 1) i out = F k (i + 1) (out ++ g (l.getD i.toNat z)))
    (hend : ∀ (k : Nat), K ≤ k → F (k + 1) l.length (l.flatMap g) = some r) : From (fun k => F k 0 []) r := by
  have hlen : ∀ m : List α, (m.flatMap g).length ≤ m.length := by
    intro m
    induction m with
    | nil => simp
    | cons x m ih => have := hg x; simp only [List.flatMap_cons, List.length_append, List.length_cons]; omega
  have key : ∀ (n : Nat) (i : Nat), i + n = l.length → ∀ k, n + K < k → F k i ((l.take i).flatMap g) = some r := by
    intro n
    induction n with
    | zero =>
      intro i hi k hk
      obtain ⟨k, rfl⟩ : ∃ n, k = n + 1 := ⟨k - 1, by omega⟩
      rw [List.take_of_length_le (by omega), show i = l.length by omega]
      exact hend k (by omega)
    | succ n ih =>
      intro i hi k hk
      obtain ⟨k, rfl⟩ : ∃ n, k = n + 1 := ⟨k - 1, by omega⟩
      have h1 : i < l.length := by omega
      have h2 := hlen (l.take i)
      rw [List.length_take] at h2
      rw [hstep k i _ (by omega) (by omega) (by omega) (by omega)]
      have := ih (i + 1) (by omega) k (by omega)
      rw [List.take_succ_eq_append_getElem h1, List.flatMap_append] at this
      rw [Int.toNat_natCast, gAt h1]
      simpa using this
  exact ⟨l.length + K + 1, fun k hk => by have := key l.length 0 (by omega) k (by omega); simpa using this⟩
theorem flat_one {α : Type} (l : List α) : l.flatMap (fun x => [x]) = l := by
  induction l with
  | nil => rfl
  | cons x l ih => simp [List.flatMap_cons, ih]
theorem l04Copy_from (m : Int) (l : List S58) (h : l.length ≤ 1048576) (hb : ∀ y ∈ l, okB y) : From (fun k => spec_l04Copy.f k m l) (m, l) := by
  refine app_loop (fun k i out => spec_l04Copy.l0 k i m l m out) l z58 (fun x => [x]) (fun _ => Nat.le_refl _) 0 (m, l) h (fun k i out _ h0 h1 h2 => ?_) (fun k _ => ?_)
  · have hin : i.toNat < l.length := by omega
    have hok : (l.getD i.toNat z58).f3.length ≤ 1048576 := hb _ (getD_mem _ hin)
    simp only [spec_l04Copy.l0, h0, h1, if_true, Option.bind_some, rd_T58, wsucc h0 (by omega), List.nil_append, List.length_nil]
    rw [if_pos (by omega), if_pos (by omega)]
  · have hi : ¬ (l.length : Int) < (l.length : Int) := by omega
    simp only [spec_l04Copy.l0, hi, if_false, flat_one]
theorem clonePost_from (m : Int) (l : List S58) (h : l.length ≤ 1048576) (hb : ∀ y ∈ l, okB y) : From (fun k => impl_clonePost.f k m l) (m, l) := by
  refine app_loop (fun k i out => impl_clonePost.l0 k l (l.length : Int) i m out) l z58 (fun x => [x]) (fun _ => Nat.le_refl _) 0 (m, l) h (fun k i out _ h0 h1 h2 => ?_) (fun k _ => ?_)
  · have hin : i.toNat < l.length := by omega
    have hok : (l.getD i.toNat z58).f3.length ≤ 1048576 := hb _ (getD_mem _ hin)
    have hc : slices_CloneP.f (rd_T58 l i).f3 = some (rd_T58 l i).f3 := if_pos (by show (l.getD i.toNat z58).f3.length * 16 ≤ _; omega)
    simp only [impl_clonePost.l0, h0, h1, if_true, hc, Option.bind_some, wsucc h0 (by omega)]
    rw [if_pos (by omega)]
    rfl
  · have hi : ¬ (l.length : Int) < (l.length : Int) := by omega
    simp only [impl_clonePost.l0, hi, if_false, flat_one]
theorem toInt64S_from (l : List Int) (h : l.length ≤ 1073741824) : From (fun k => laws_toInt64S.f k l) l := by
  obtain ⟨K, hK⟩ := fill_all (F := laws_toInt64S.l0) (fun x : Int => x) 0 0 (fun k xs ys i h0 h1 h2 h3 => by
      simp only [laws_toInt64S.l0, h0, h1, h2, if_true, wsucc h0 h3]; rfl) (fun k xs ys i h => by simp only [laws_toInt64S.l0, h, if_false]) l (by omega)
  refine ⟨K, fun k hk => ?_⟩
  simp only [laws_toInt64S.f, Int.toNat_natCast]
  rw [if_pos (by omega), if_pos (by omega)]
  simpa using hK k hk
theorem eqInt64S_from (l : List Int) (h : l.length ≤ 1073741824) : From (fun k => laws_eqInt64S.f k l l) true := by
  obtain ⟨K, hK⟩ := all_loop (fun k i => laws_eqInt64S.l0 k l l i) l.length (by omega) 0 true (fun k i _ h0 h1 => by
      simp only [laws_eqInt64S.l0, h0, h1, if_true, wsucc h0 (by omega)]) (fun k i _ h _ => by simp only [laws_eqInt64S.l0, h, if_false])
  refine ⟨K, fun k hk => ?_⟩
  simp only [laws_eqInt64S.f, if_true]
  exact hK k hk
def risesB (l : List Int) : Bool := (List.range l.length).all fun j => decide (1 ≤ l.getD j 0 ∧ l.getD j 0 ≤ 1000) && (decide (j = 0) || decide (l.getD (j - 1) 0 < l.getD j 0))
theorem prev_of {i : Int} (h0 : 0 ≤ i) (h1 : i ≤ 4611686018427387904) (hp : i > 0) : wrap64 (i - 1) = i - 1 ∧ (i - 1).toNat = i.toNat - 1 ∧ 0 ≤ i - 1 := ⟨wpred h0 h1, by omega, by omega⟩
theorem l00Rises_from (l : List Int) (h : l.length ≤ 1073741824) : From (fun k => spec_l00Rises.f k l 1 1000) (risesB l) := by
  obtain ⟨K, hK⟩ := test_loopB (fun k i => spec_l00Rises.l0 k l 1 1000 i) l.length 0 (fun j => decide (1 ≤ l.getD j 0 ∧ l.getD j 0 ≤ 1000) && (decide (j = 0) || decide (l.getD (j - 1) 0 < l.getD j 0))) true (fun k i _ h0 h1 => by
    simp only [spec_l00Rises.l0, in_eq, in_some, h0, h1, if_true, Option.bind_some, wsucc h0 (by omega), rd]
    by_cases c : 1 ≤ l.getD i.toNat 0 ∧ l.getD i.toNat 0 ≤ 1000
    · by_cases c5 : i > 0
      · obtain ⟨p1, p2, p3⟩ := prev_of h0 (by omega) c5
        have p4 : i - 1 < l.length := by omega
        have p5 : ¬ i.toNat = 0 := by omega
        by_cases c6 : l.getD (i.toNat - 1) 0 < l.getD i.toNat 0
        · have c7 : ¬ l.getD (i.toNat - 1) 0 ≥ l.getD i.toNat 0 := by omega
          simp only [c, c5, c6, c7, p1, p2, p3, p4, p5, if_true, if_false, decide_true, decide_false, and_self, Bool.true_and, Bool.false_or]
        · have c7 : l.getD (i.toNat - 1) 0 ≥ l.getD i.toNat 0 := by omega
          simp only [c, c5, c6, c7, p1, p2, p3, p4, p5, if_true, if_false, decide_true, decide_false, and_self, Bool.true_and, Bool.false_or, Bool.false_eq_true]
      · have p5 : i.toNat = 0 := by omega
        rw [p5] at c ⊢
        simp only [c, c5, if_true, if_false, decide_true, and_self, Bool.true_and, Bool.true_or]
    · simp [c, -List.getD_eq_getElem?_getD]) (fun k _ => by simp only [spec_l00Rises.l0, Int.lt_irrefl, if_false])
  exact ⟨K, fun k hk => by simpa [risesB, spec_l00Rises.f] using hK k hk⟩
theorem rising_from (l : List Int) (h : l.length ≤ 1073741824) : From (fun k => impl_rising_isMember.f k l) (risesB l) := by
  obtain ⟨K, hK⟩ := test_loopB (fun k i => impl_rising_isMember.l0 k l l l.length i) l.length 0 (fun j => decide (1 ≤ l.getD j 0 ∧ l.getD j 0 ≤ 1000) && (decide (j = 0) || decide (l.getD (j - 1) 0 < l.getD j 0))) true (fun k i _ h0 h1 => by
    simp only [impl_rising_isMember.l0, impl_isMember.f, in_some, h0, h1, if_true, Option.bind_some, wsucc h0 (by omega), rd]
    by_cases c : 1 ≤ l.getD i.toNat 0 ∧ l.getD i.toNat 0 ≤ 1000
    · by_cases c5 : i > 0
      · obtain ⟨p1, p2, p3⟩ := prev_of h0 (by omega) c5
        have p4 : i - 1 < l.length := by omega
        have p5 : ¬ i.toNat = 0 := by omega
        by_cases c6 : l.getD (i.toNat - 1) 0 < l.getD i.toNat 0
        · have c7 : ¬ l.getD (i.toNat - 1) 0 ≥ l.getD i.toNat 0 := by omega
          simp only [c, c5, c6, c7, p1, p2, p3, p4, p5, if_true, if_false, decide_true, decide_false, and_self, Bool.true_and, Bool.false_or]
        · have c7 : l.getD (i.toNat - 1) 0 ≥ l.getD i.toNat 0 := by omega
          simp only [c, c5, c6, c7, p1, p2, p3, p4, p5, if_true, if_false, decide_true, decide_false, and_self, Bool.true_and, Bool.false_or, Bool.false_eq_true]
      · have p5 : i.toNat = 0 := by omega
        rw [p5] at c ⊢
        simp only [c, c5, if_true, if_false, decide_true, and_self, Bool.true_and, Bool.true_or]
    · simp [c, -List.getD_eq_getElem?_getD]) (fun k _ => by simp only [impl_rising_isMember.l0, Int.lt_irrefl, if_false])
  exact ⟨K, fun k hk => by simpa [risesB, impl_rising_isMember.f] using hK k hk⟩
theorem l00Has_rounds (l : List Int) (x : Int) (h : l.length ≤ 1048576) : ∀ (m k : Nat) (i : Int), 0 ≤ i → i ≤ l.length → (l.length : Int) - i = m → m < k → spec_l00Has.l0 k l x i = some ((l.drop i.toNat).any fun y => decide (x = y)) := by
  intro m
  induction m with
  | zero =>
    intro k i h0 h1 hm hk
    obtain ⟨k, rfl⟩ : ∃ m, k = m + 1 := ⟨k - 1, by omega⟩
    have hi : ¬ i < (l.length : Int) := by omega
    simp only [spec_l00Has.l0, hi, if_false]
    rw [List.drop_of_length_le (by omega)]; rfl
  | succ m ih =>
    intro k i h0 h1 hm hk
    obtain ⟨k, rfl⟩ : ∃ m, k = m + 1 := ⟨k - 1, by omega⟩
    have hi : i < (l.length : Int) := by omega
    have hin : i.toNat < l.length := by omega
    have hx : l.getD i.toNat 0 = l[i.toNat] := by rw [List.getD_eq_getElem?_getD, List.getElem?_eq_getElem hin]; rfl
    rw [List.drop_eq_getElem_cons hin, List.any_cons]
    by_cases c : l[i.toNat] = x
    · simp only [spec_l00Has.l0, hi, h0, if_true, rd, hx, c, decide_true, Bool.true_or]
    · have c' : ¬ x = l[i.toNat] := fun e => c e.symm
      simp only [spec_l00Has.l0, hi, h0, if_true, if_false, rd, hx, c, c', decide_false, Bool.false_or, wsucc h0 (by omega)]
      rw [ih k (i + 1) (by omega) (by omega) (by omega) (by omega), show (i + 1).toNat = i.toNat + 1 by omega]
theorem l00Has_from (l : List Int) (x : Int) (h : l.length ≤ 1048576) (k : Nat) (hk : l.length < k) : spec_l00Has.f k l x = some (l.any fun y => decide (x = y)) := by
  have := l00Has_rounds l x h l.length k 0 (by omega) (by omega) (by omega) hk
  simpa [spec_l00Has.f] using this
abbrev B1 := S58
abbrev P1 := S60
theorem Index_rounds (l : List Int) (x : Int) (h : l.length ≤ 1048576) : ∀ (m k : Nat) (i : Int), 0 ≤ i → i ≤ l.length → (l.length : Int) - i = m → m < k → ∃ r, slices_Index_int64_int64.l0 k l x l.length i = some r ∧ decide (r ≥ 0) = ((l.drop i.toNat).any fun y => decide (x = y)) := by
  intro m
  induction m with
  | zero =>
    intro k i h0 h1 hm hk
    obtain ⟨k, rfl⟩ : ∃ m, k = m + 1 := ⟨k - 1, by omega⟩
    have hi : ¬ i < (l.length : Int) := by omega
    refine ⟨-1, by simp only [slices_Index_int64_int64.l0, hi, if_false], ?_⟩
    rw [List.drop_of_length_le (by omega)]; rfl
  | succ m ih =>
    intro k i h0 h1 hm hk
    obtain ⟨k, rfl⟩ : ∃ m, k = m + 1 := ⟨k - 1, by omega⟩
    have hi : i < (l.length : Int) := by omega
    have hin : i.toNat < l.length := by omega
    have hx : l.getD i.toNat 0 = l[i.toNat] := by rw [List.getD_eq_getElem?_getD, List.getElem?_eq_getElem hin]; rfl
    rw [List.drop_eq_getElem_cons hin, List.any_cons]
    by_cases c : x = l[i.toNat]
    · refine ⟨i, by simp only [slices_Index_int64_int64.l0, hi, h0, if_true, rd, hx, if_pos c], ?_⟩
      rw [decide_eq_true c, Bool.true_or]; exact decide_eq_true h0
    · obtain ⟨r, e, er⟩ := ih k (i + 1) (by omega) (by omega) (by omega) (by omega)
      refine ⟨r, ?_, ?_⟩
      · simp only [slices_Index_int64_int64.l0, hi, h0, if_true, rd, hx, if_neg c, wsucc h0 (by omega)]
        exact e
      · rw [er, decide_eq_false c, Bool.false_or, show (i + 1).toNat = i.toNat + 1 by omega]
theorem Contains_is (l : List Int) (x : Int) (h : l.length ≤ 1048576) (k : Nat) (hk : l.length < k) : slices_Contains_int64_int64.f k l x = some (hasI l x) := by
  obtain ⟨r, e, er⟩ := Index_rounds l x h l.length k 0 (by omega) (by omega) (by omega) hk
  simp only [slices_Contains_int64_int64.f, slices_Index_int64_int64.f, e, Option.bind_some, er]
  rfl
theorem l00Has_is (l : List Int) (x : Int) (h : l.length ≤ 1048576) (k : Nat) (hk : l.length < k) : spec_l00Has.f k l x = some (hasI l x) := l00Has_from l x h k hk
theorem okPost_small {lim : Int} {bs : List B1} (h : okPost lim bs = true) : (1 ≤ lim ∧ lim ≤ 64) ∧ bs.length ≤ 32 ∧ ∀ b ∈ bs, b.f3.length ≤ 64 := by
  unfold okPost at h
  simp only [Bool.and_eq_true, decide_eq_true_eq, List.all_eq_true] at h
  refine ⟨h.1, h.2.1, fun b hb => ?_⟩
  obtain ⟨j, hj, e⟩ := List.getElem_of_mem hb
  have ha := h.2.2 j (List.mem_range.2 hj)
  unfold okAt boxB at ha
  simp only [Bool.and_eq_true, decide_eq_true_eq, okPs] at ha
  rw [gAt hj, e] at ha
  exact ha.1.2.2.2.1.1
theorem okPs_small {ps : List P1} (h : okPs ps = true) : ps.length ≤ 64 := by
  unfold okPs at h
  simp only [Bool.and_eq_true, decide_eq_true_eq] at h
  exact h.1
theorem okB_small {bs : List B1} (h : ∀ b ∈ bs, b.f3.length ≤ 64) : ∀ b ∈ bs, okB b := fun b hb => by
  show b.f3.length ≤ 1048576
  have := h b hb
  omega
/-- What both return. -/
def saOf (lim : Int) (bs : List B1) (ms : List Int) (ps : List P1) : Int × List B1 × Int × Bool :=
  if okPost lim bs = true then (if risesB ms = true then (if okPs ps = true then (if okPost lim (sentJ lim.toNat (hasI ms) ps bs ps.length) = true then (lim, sentJ lim.toNat (hasI ms) ps bs ps.length, ((ps.length * cntA (hasI ms) bs : Nat) : Int), true) else (0, [], 0, false)) else (0, [], 0, false)) else (0, [], 0, false)) else (0, [], 0, false)
theorem impl_from (lim : Int) (bs : List B1) (ms : List Int) (ps : List P1) (hl : bs.length ≤ 1048576) (hb : ∀ y ∈ bs, okB y) (hm : ms.length ≤ 1048576) (hp : ps.length ≤ 1048576) : From (fun k => impl_SendAll.f k lim bs ms ps) (saOf lim bs ms ps) := by
  obtain ⟨K1, e1⟩ := ValidPost_from lim bs hl hb
  obtain ⟨K2, e2⟩ := rising_from ms (by omega)
  obtain ⟨K3, e3⟩ := parcelsOk_from ps hp
  obtain ⟨K4, e4⟩ := clonePost_from lim bs hl hb
  dsimp only at e1 e2 e3 e4
  by_cases h1 : okPost lim bs = true
  case neg =>
    refine ⟨K1, fun k hk => ?_⟩
    simp only [impl_SendAll.f, changedF, saOf, e1 k hk, Option.bind_some, if_neg h1]
    simp only [outSA, Bool.false_eq_true, if_false]
  obtain ⟨s1, s2, s3⟩ := okPost_small h1
  have hs := sentJ_f3 lim.toNat (hasI ms) ps bs ps.length (by omega) s3
  obtain ⟨K5, e5⟩ := ValidPost_from lim (sentJ lim.toNat (hasI ms) ps bs ps.length) (by rw [sentJ_len]; exact hl) (okB_small hs)
  dsimp only at e5
  refine ⟨K1 + K2 + K3 + K4 + K5 + ms.length + 1, fun k hk => ?_⟩
  have E1 := e1 k (by omega)
  have E2 := e2 k (by omega)
  have E3 := e3 k (by omega)
  have E4 := e4 k (by omega)
  have E5 := e5 k (by omega)
  simp only [impl_SendAll.f, changedF, doSA, impl_IsMembers.f, saOf, E1, E2, E4, Option.bind_some, if_pos h1]
  by_cases h2 : risesB ms = true
  case neg =>
    simp only [if_neg h2, Option.bind_some, Bool.false_eq_true, if_false]
    simp only [outSA, Bool.false_eq_true, if_false]
  simp only [if_pos h2, E3, Option.bind_some]
  by_cases h3 : okPs ps = true
  case neg =>
    simp only [if_neg h3, Option.bind_some, Bool.false_eq_true, if_false]
    simp only [outSA, Bool.false_eq_true, if_false]
  have hg : guardS k ms ps lim bs := ⟨s1, okPs_small h3, s2, s3, fun b _ => Contains_is ms b.f1 hm k (by omega)⟩
  simp only [if_pos h3, if_pos hg, Option.bind_some, if_true, E5]
  by_cases h4 : okPost lim (sentJ lim.toNat (hasI ms) ps bs ps.length) = true
  · simp only [if_pos h4, Option.bind_some, outSA, if_true, sentJ_cnt]
  · simp only [if_neg h4, Option.bind_some, outSA, Bool.false_eq_true, if_false]
theorem saOf_ok (lim : Int) (bs : List B1) (ms : List Int) (ps : List P1) : (saOf lim bs ms ps).2.1.length ≤ 1048576 ∧ ∀ y ∈ (saOf lim bs ms ps).2.1, okB y := by
  unfold saOf
  have hn : (([] : List B1)).length ≤ 1048576 ∧ ∀ y ∈ ([] : List B1), okB y := ⟨by simp, fun y hy => by cases hy⟩
  split
  · next h1 =>
    obtain ⟨s1, s2, s3⟩ := okPost_small h1
    split
    · split
      · split
        · exact ⟨by show (sentJ _ _ _ _ _).length ≤ _; rw [sentJ_len]; omega, okB_small (sentJ_f3 lim.toNat (hasI ms) ps bs ps.length (by omega) s3)⟩
        · exact hn
      · exact hn
    · exact hn
  · exact hn
theorem markInt64S_upto (l : List Int) (m : Int) (hm : 0 ≤ m) (hb : m ≤ 1152921504606846976) (h : l.length ≤ 1073741824) :
    ∃ ys, From (fun k => laws_markInt64S.f k l m) (m + 1 * l.length, ys) ∧ ys.length = l.length ∧ ∀ j : Nat, j < l.length → ys[j]? = some (m + 1 * j) :=
  mark_all (F := fun k xs m i => laws_markInt64S.l0 k xs m i) 1 (by omega) (by omega) (fun m => m) (fun k xs m i h0 h1 h2 h3 h4 => by
    simp only [laws_markInt64S.l0, h0, h1, if_true, wsucc h0 h2, wsucc h3 (by omega)]) (fun k xs m i h => by simp only [laws_markInt64S.l0, h, if_false]) l m hm (by omega) (by omega)
theorem okPs_one (p : P1) : okPs [p] = okP p := by
  unfold okPs
  simp [List.range_succ]
theorem sentJ_one (n : Nat) (has : Int → Bool) (p : P1) (bs : List B1) : sentJ n has [p] bs [p].length = bs.map (sendB n has p) := rfl
theorem spec_from (lim : Int) (bs : List B1) (ms : List Int) (p : P1) (hl : bs.length ≤ 1048576) (hb : ∀ y ∈ bs, okB y) (hm : ms.length ≤ 1048576) : From (fun k => spec_SendTo.f k lim bs ms p.f0 p.f1) (saOf lim bs ms [p]) := by
  obtain ⟨K1, e1⟩ := l04Is_from lim bs hl hb
  obtain ⟨K2, e2⟩ := l00Rises_from ms (by omega)
  have e3 := l04Parcel_some p
  obtain ⟨K4, e4⟩ := l04Copy_from lim bs hl hb
  dsimp only at e1 e2 e4
  by_cases h1 : okPost lim bs = true
  case neg => exact ⟨K1, fun k hk => by simp only [spec_SendTo.f, saOf, e1 k hk, Option.bind_some, if_neg h1]⟩
  obtain ⟨s1, s2, s3⟩ := okPost_small h1
  have hs := sentJ_f3 lim.toNat (hasI ms) [p] bs [p].length (by omega) s3
  obtain ⟨K5, e5⟩ := l04Is_from lim (sentJ lim.toNat (hasI ms) [p] bs [p].length) (by rw [sentJ_len]; exact hl) (okB_small hs)
  dsimp only at e5
  refine ⟨K1 + K2 + K4 + K5 + ms.length + 1, fun k hk => ?_⟩
  have E1 := e1 k (by omega)
  have E2 := e2 k (by omega)
  have E4 := e4 k (by omega)
  have E5 := e5 k (by omega)
  simp only [spec_SendTo.f, spec_l04Members.f, saOf, E1, E2, Option.bind_some, if_pos h1]
  by_cases h2 : risesB ms = true
  case neg => rw [if_neg h2, if_neg h2]
  rw [if_pos h2, if_pos h2, e3, Option.bind_some, okPs_one]
  by_cases h3 : okP p = true
  case neg => rw [if_neg h3, if_neg h3]
  rw [if_pos h3, if_pos h3, E4, Option.bind_some]
  have hg : guardU k ms lim bs := ⟨s1, s2, s3, fun b _ => l00Has_is ms b.f1 hm k (by omega)⟩
  rw [sentJ_one] at E5 ⊢
  rw [if_pos hg, E5, Option.bind_some]
  have e1' : ((([p].length * cntA (hasI ms) bs : Nat)) : Int) = ((cntA (hasI ms) bs : Nat) : Int) := by rw [List.length_singleton, Nat.one_mul]
  rw [e1']
  split <;> rfl
theorem implTo_from (lim : Int) (bs : List B1) (ms : List Int) (p : P1) (hl : bs.length ≤ 1048576) (hb : ∀ y ∈ bs, okB y) (hm : ms.length ≤ 1048576) : From (fun k => impl_SendTo.f k lim bs ms p.f0 p.f1) (saOf lim bs ms [p]) := by
  obtain ⟨K, e⟩ := impl_from lim bs ms [p] hl hb hm (by simp)
  refine ⟨K, fun k hk => ?_⟩
  have E := e k hk
  dsimp only at E
  simp only [impl_SendTo.f]
  rw [show ([⟨p.f0, p.f1⟩] : List P1) = [p] from rfl, E, Option.bind_some]
theorem FnExactSendTo : laws_FnExactSendTo.Pure := by
  intro a l ms p0 p1 _ ⟨h1, q1⟩ ⟨hm1, _⟩ _ _
  by_cases hlong : 1048576 < ms.length
  · exact ⟨0, by simp only [laws_FnExactSendTo.f, hlong, if_true]⟩
  obtain ⟨s, ⟨K1, hs⟩, hc⟩ := szPost_tells a l 1048576 (by omega) (by omega) h1 q1
  rcases hc with hc | ⟨b1, b2, b3, b4⟩
  · exact ⟨K1, by simp only [laws_FnExactSendTo.f, hlong, if_false, hs K1 (Nat.le_refl _), Option.bind_some, hc, if_true]⟩
  have hn : ¬ s < 0 := by omega
  have c1 : (l.map convBox).length ≤ 1048576 := by simpa using b1
  have c2 := okB_conv b2
  have c4 : ms.length ≤ 1048576 := by omega
  obtain ⟨K2, e2⟩ := toPost_from a l b1 b2
  obtain ⟨K10, e10⟩ := toInt64S_from ms (by omega)
  generalize l.map convBox = bs at *
  have ep : laws_toParcel.f p0 p1 = some (p0, p1) := rfl
  obtain ⟨K3, e3⟩ := spec_from a bs ms (⟨p0, p1⟩ : P1) c1 c2 c4
  obtain ⟨K4, e4⟩ := implTo_from a bs ms (⟨p0, p1⟩ : P1) c1 c2 c4
  obtain ⟨d1, d2⟩ := saOf_ok a bs ms [(⟨p0, p1⟩ : P1)]
  generalize saOf a bs ms [(⟨p0, p1⟩ : P1)] = g at *
  obtain ⟨K5, e5⟩ := eqPost_from g.1 g.2.1 d1 d2
  obtain ⟨K6, e6⟩ := eqPost_from a bs c1 c2
  obtain ⟨K12, e12⟩ := eqInt64S_from ms (by omega)
  obtain ⟨m, ⟨K7, e7⟩, hm, hmx⟩ := markPost_upto a bs c1 c2
  obtain ⟨ys, ⟨K14, e14⟩, _, _⟩ := markInt64S_upto ms m.1 hm (by omega) (by omega)
  obtain ⟨m2, g', ⟨K8, e8⟩, hm2, ⟨K9, e9⟩⟩ := markPost_held g.1 g.2.1 d1 d2
  generalize hK : K1 + K2 + K3 + K4 + K5 + K6 + K7 + K8 + K9 + K10 + K12 + K14 = K
  refine ⟨K, ?_⟩
  have E1 := hs K (by omega)
  have E2 := e2 K (by omega)
  have E3 := e3 K (by omega)
  have E4 := e4 K (by omega)
  have E5 := e5 K (by omega)
  have E6 := e6 K (by omega)
  have E7 := e7 K (by omega)
  have E8 := e8 K (by omega)
  have E9 := e9 K (by omega)
  have E10 := e10 K (by omega)
  have E12 := e12 K (by omega)
  have E14 := e14 K (by omega)
  simp only at E1 E2 E3 E4 E5 E6 E7 E8 E9 E10 E12 E14
  simp only [laws_FnExactSendTo.f, hlong, E1, hn, if_false, E2, ep, E3, E4, E5, E6, E7, E8, E9, E10, E12, E14, Option.bind_some]
  exact sureO_mk (by refine ⟨?_, ?_, ?_, ?_, ?_, ?_, ?_⟩ <;> first | trivial | exact hm2 | (show 0 ≤ m.1 + 1 * (ms.length : Int); omega))

end Go.Proofs.Ytgpiaeklhhacjaa.Pure
