/- The program's SameLog returns what the reference's returns, for every two logs that can be read. -/
import Derived.Test.YtaafhggihebicaaXFnExactSameLogx5
import Derived.Test.YtaafhggihebicaaVFnExactSameLogXP
namespace Go.Proofs.Ytaafhggihebicaa.Pure
open Go.RowKit Go.Proofs.Ytaafhggihebicaa.XFnExactSameLog Go.Proofs.YtaafhggihebicaaW.PrintWords Go.Proofs.YtaafhggihebicaaW.PrintLast Go.Proofs.Ytaafhggihebicaa.XP Go.Proofs.Ytaafhggihebicaa.XP
set_option linter.unusedVariables false
set_option linter.unusedSimpArgs false

theorem toInt64S_from (l : List Int) (h : l.length ≤ 1073741824) : From (fun k => laws_toInt64S.f k l) l := by
  obtain ⟨K, hK⟩ := fill_all (F := laws_toInt64S.l0) (fun x : Int => x) 0 0 (fun k xs ys i h0 h1 h2 h3 => by
      simp only [laws_toInt64S.l0, h0, h1, h2, if_true, wsucc h0 h3]; rfl) (fun k xs ys i h => by simp only [laws_toInt64S.l0, h, if_false]) l (by omega)
  refine ⟨K, fun k hk => ?_⟩
  simp only [laws_toInt64S.f, Int.toNat_natCast]
  rw [if_pos (by omega), if_pos (by omega)]
  simpa using hK k hk
theorem eqInt64S_from (l : List Int) (h : l.length ≤ 1073741824) : From (fun k => laws_eqInt64S.f k l l) true := by
  obtain ⟨K, hK⟩ := all_loop (fun k i => laws_eqInt64S.l0 k l l i) l.length (by omega) 0 true (fun k i _ h0 h1 => by
      simp only [laws_eqInt64S.l0, h0, h1, if_true, wsucc h0 (by omega)]) (fun k i _ h _ => by simp only [laws_eqInt64S.l0, h, if_false])
  refine ⟨K, fun k hk => ?_⟩
  simp only [laws_eqInt64S.f, if_true]
  exact hK k hk
theorem szN (n : Nat) (a : Int) (hl : n ≤ 9223372036854775807) (ha : 0 ≤ a) (ha2 : a ≤ 1048576) : wrap64 (a - (n : Int)) = a - n := w64 (by omega) (by omega)
theorem szMessage_tells (a0 a1 a2 : Int) (s : ByteArray) (a4 : Int) (b : Bool) (a6 : Int) (l : List Int) (a : Int) (ha : 0 ≤ a) (ha2 : a ≤ 1048576) (h1 : s.size ≤ 9223372036854775807) (h2 : l.length ≤ 9223372036854775807) :
    ∃ r, laws_szMessage.f a0 a1 a2 s a4 b a6 l a = some r ∧ (r < 0 ∨ (s.size ≤ 1048576 ∧ l.length ≤ 1048576 ∧ 0 ≤ r ∧ r ≤ a)) := by
  unfold laws_szMessage.f laws_szInt64S.f
  rw [szN s.size a h1 ha ha2]
  by_cases c1 : a - (s.size : Int) < 0
  · rw [if_pos c1]; exact ⟨_, rfl, .inl (by omega)⟩
  rw [if_neg c1, szN l.length (a - s.size) h2 (by omega) (by omega)]
  by_cases c2 : a - (s.size : Int) - l.length < 0
  · rw [if_pos c2]; exact ⟨-1, rfl, .inl (by omega)⟩
  rw [if_neg c2, Option.bind_some, if_neg c2]
  exact ⟨_, rfl, .inr (by omega)⟩
theorem toMessage_from (a0 a1 a2 : Int) (s : ByteArray) (a4 : Int) (b : Bool) (a6 : Int) (l : List Int) (h : l.length ≤ 1048576) : From (fun k => laws_toMessage.f k a0 a1 a2 s a4 b a6 l) (a0, a1, a2, s, a4, b, a6, l) := by
  obtain ⟨K, hK⟩ := toInt64S_from l (by omega)
  exact ⟨K, fun k hk => by simp only [laws_toMessage.f, hK k hk, Option.bind_some]⟩
theorem eqMessage_from (a0 a1 a2 : Int) (s : ByteArray) (a4 : Int) (b : Bool) (a6 : Int) (l : List Int) (h : l.length ≤ 1048576) : From (fun k => laws_eqMessage.f k a0 a1 a2 s a4 b a6 l a0 a1 a2 s a4 b a6 l) true := by
  obtain ⟨K, hK⟩ := eqInt64S_from l (by omega)
  exact ⟨K, fun k hk => by simp [laws_eqMessage.f, hK k hk]⟩
abbrev zM := z49
abbrev zL := z46
def okL (b : S46) : Prop := b.f3.size ≤ 1048576 ∧ b.f7.length ≤ 1048576
def okM (b : S49) : Prop := b.f3.size ≤ 1048576 ∧ b.f7.length ≤ 1048576
theorem szMessageS_tells (l : List S46) (a : Int) (ha : 0 ≤ a) (ha2 : a ≤ 1048576) (h1 : l.length ≤ 9223372036854775807) (hq : ∀ y ∈ l, Q46 y) :
    ∃ r, From (fun k => laws_szMessageS.f k l a) r ∧ (r < 0 ∨ (l.length ≤ 1048576 ∧ (∀ y ∈ l, okL y) ∧ 0 ≤ r ∧ r ≤ a)) := by
  unfold laws_szMessageS.f
  rw [szN l.length a h1 ha ha2]
  by_cases c1 : a - (l.length : Int) < 0
  · simp only [if_pos c1]; exact ⟨-1, from_now fun _ => rfl, .inl (by omega)⟩
  simp only [if_neg c1]
  obtain ⟨r, hr, h⟩ := pay_loop (F := fun k a i => laws_szMessageS.l0 k l a i) l.length (fun j => okL (l.getD j z46)) (fun a i h0 h2 h3 h4 => by
      have hm := getD_mem z46 (show i.toNat < l.length by omega)
      have hq2 := hq _ hm
      obtain ⟨t, ht, hc⟩ := szMessage_tells (l.getD i.toNat z46).f0 (l.getD i.toNat z46).f1 (l.getD i.toNat z46).f2 (l.getD i.toNat z46).f3 (l.getD i.toNat z46).f4 (l.getD i.toNat z46).f5 (l.getD i.toNat z46).f6 (l.getD i.toNat z46).f7 a h3 h4 hq2.2.2.2.1 hq2.2.2.2.2.2.2.2.1
      refine ⟨0, ?_⟩
      rcases hc with hc | ⟨b1, b2, b3, b4⟩
      · left; intro k _; simp only [laws_szMessageS.l0, h0, h2, if_true, rd_T46, ht, Option.bind_some, hc]
      · right; refine ⟨t, b3, b4, ⟨b1, b2⟩, fun k _ => ?_⟩
        have hn : ¬ t < 0 := by omega
        simp only [laws_szMessageS.l0, h0, h2, if_true, rd_T46, ht, Option.bind_some, hn, if_false, wsucc h0 (by omega)]) (fun k a => by simp only [laws_szMessageS.l0, Int.lt_irrefl, if_false]) (a - l.length) (by omega) (by omega)
  refine ⟨r, hr, h.imp id fun ⟨r0, r1, hj⟩ => ⟨by omega, fun y hy => ?_, r0, by omega⟩⟩
  obtain ⟨j, hj2, rfl⟩ := List.mem_iff_getElem.1 hy
  have := hj j hj2
  rwa [List.getD_eq_getElem?_getD, List.getElem?_eq_getElem hj2] at this
theorem szLog_tells (m : Int) (l : List S46) (a : Int) (ha : 0 ≤ a) (ha2 : a ≤ 1048576) (h1 : l.length ≤ 9223372036854775807) (hq : ∀ y ∈ l, Q46 y) :
    ∃ r, From (fun k => laws_szLog.f k m l a) r ∧ (r < 0 ∨ (l.length ≤ 1048576 ∧ (∀ y ∈ l, okL y) ∧ 0 ≤ r ∧ r ≤ a)) := by
  obtain ⟨r, ⟨K, hK⟩, h⟩ := szMessageS_tells l a ha ha2 h1 hq
  rcases h with h | h
  · exact ⟨-1, ⟨K, fun k hk => by simp only [laws_szLog.f, hK k hk, Option.bind_some, h, if_true]⟩, .inl (by omega)⟩
  · have hn : ¬ r < 0 := by omega
    exact ⟨r, ⟨K, fun k hk => by simp only [laws_szLog.f, hK k hk, Option.bind_some, hn, if_false]⟩, .inr h⟩
def convMessage (x : S46) : S49 := ⟨x.f0, x.f1, x.f2, x.f3, x.f4, x.f5, x.f6, x.f7⟩
theorem toMessageS_from (l : List S46) (h : l.length ≤ 1048576) (hb : ∀ y ∈ l, okL y) : From (fun k => laws_toMessageS.f k l) (l.map convMessage) := by
  obtain ⟨K, hK⟩ := from_all (g := fun k j => laws_toInt64S.f k (l.getD j z46).f7) (fun j => (l.getD j z46).f7) l.length fun j hj => toInt64S_from _ (by have := (hb _ (getD_mem z46 hj)).2; omega)
  obtain ⟨L, hL⟩ := fill_allK (F := fun k ys i => laws_toMessageS.l0 k l ys i) convMessage z46 z49 l K (fun k ys i hk h0 h1 h2 => by
      simp only [laws_toMessageS.l0, h0, h1, h2, if_true, laws_toMessage.f, rd_T46, hK k hk i.toNat (by omega), Option.bind_some, wsucc h0 (by omega)]; rfl) (fun k ys i _ h => by simp only [laws_toMessageS.l0, h, if_false])
  refine ⟨L, fun k hk => ?_⟩
  simp only [laws_toMessageS.f, Int.toNat_natCast]
  rw [if_pos (by omega), if_pos (by omega)]
  exact hL k hk
theorem eqMessageS_from (l : List S49) (h : l.length ≤ 1048576) (hb : ∀ y ∈ l, okM y) : From (fun k => laws_eqMessageS.f k l l) true := by
  obtain ⟨K, hK⟩ := from_all (g := fun k j => laws_eqMessage.f k (l.getD j z49).f0 (l.getD j z49).f1 (l.getD j z49).f2 (l.getD j z49).f3 (l.getD j z49).f4 (l.getD j z49).f5 (l.getD j z49).f6 (l.getD j z49).f7 (l.getD j z49).f0 (l.getD j z49).f1 (l.getD j z49).f2 (l.getD j z49).f3 (l.getD j z49).f4 (l.getD j z49).f5 (l.getD j z49).f6 (l.getD j z49).f7) (fun j => true) l.length fun j hj => eqMessage_from _ _ _ _ _ _ _ _ (hb _ (getD_mem z49 hj)).2
  obtain ⟨L, hL⟩ := all_loop (fun k i => laws_eqMessageS.l0 k l l i) l.length (by omega) K true (fun k i hk h0 h1 => by
      simp only [laws_eqMessageS.l0, h0, h1, if_true, rd_T49, hK k hk i.toNat (by omega), Option.bind_some, wsucc h0 (by omega)]) (fun k i _ h _ => by simp only [laws_eqMessageS.l0, h, if_false])
  refine ⟨L, fun k hk => ?_⟩
  simp only [laws_eqMessageS.f, if_true]
  exact hL k hk
theorem okM_conv {l : List S46} (hb : ∀ y ∈ l, okL y) : ∀ y ∈ l.map convMessage, okM y := by
  intro y hy
  obtain ⟨x, hx, rfl⟩ := List.mem_map.1 hy
  exact hb x hx
theorem toLog_from (m : Int) (l : List S46) (h : l.length ≤ 1048576) (hb : ∀ y ∈ l, okL y) : From (fun k => laws_toLog.f k m l) (m, l.map convMessage) := by
  obtain ⟨K, hK⟩ := toMessageS_from l h hb
  exact ⟨K, fun k hk => by simp only [laws_toLog.f, hK k hk, Option.bind_some]⟩
theorem eqLog_from (m : Int) (l : List S49) (h : l.length ≤ 1048576) (hb : ∀ y ∈ l, okM y) : From (fun k => laws_eqLog.f k m l m l) true := by
  obtain ⟨K, hK⟩ := eqMessageS_from l h hb
  exact ⟨K, fun k hk => by simp only [laws_eqLog.f, hK k hk, Option.bind_some, if_true]⟩
def sameI (l m : List Int) : Bool := decide ((l.length : Int) = m.length) && (List.range l.length).all fun j => decide (rd l j = rd m j)
theorem l00Same_from (l m : List Int) (h : l.length ≤ 1048576) : From (fun k => spec_l00Same.f k l m) (sameI l m) := by
  by_cases hl : (l.length : Int) = m.length
  · obtain ⟨K, hK⟩ := test_loopB (fun k i => spec_l00Same.l0 k l m i) l.length 0 (fun j => decide (rd l j = rd m j)) true (fun k i _ h0 h1 => by
      have h2 : i < (m.length : Int) := by omega
      simp only [spec_l00Same.l0, h0, h1, h2, if_true, wsucc h0 (by omega), Int.toNat_of_nonneg h0, decide_eq_true_eq]) (fun k _ => by simp only [spec_l00Same.l0, Int.lt_irrefl, if_false])
    exact ⟨K, fun k hk => by simpa [spec_l00Same.f, hl, sameI] using hK k hk⟩
  · exact ⟨0, fun k _ => by simp only [spec_l00Same.f, hl, if_false, sameI, decide_false, Bool.false_and]⟩
theorem Equal_from (l m : List Int) (h : l.length ≤ 1048576) : From (fun k => slices_Equal_int64_int64.f k l m) (sameI l m) := by
  by_cases hl : (l.length : Int) = m.length
  · obtain ⟨K, hK⟩ := test_loopB (fun k i => slices_Equal_int64_int64.l0 k l m l.length i) l.length 0 (fun j => decide (rd l j = rd m j)) true (fun k i _ h0 h1 => by
      have h2 : i < (m.length : Int) := by omega
      simp only [slices_Equal_int64_int64.l0, h0, h1, h2, if_true, wsucc h0 (by omega), Int.toNat_of_nonneg h0, decide_eq_true_eq]) (fun k _ => by simp only [slices_Equal_int64_int64.l0, Int.lt_irrefl, if_false])
    refine ⟨K, fun k hk => ?_⟩
    simp only [slices_Equal_int64_int64.f]
    rw [if_pos hl, hK k hk, Bool.and_true, sameI, decide_eq_true hl, Bool.true_and]
  · exact ⟨0, fun k _ => by simp only [slices_Equal_int64_int64.f, hl, if_false, sameI, decide_false, Bool.false_and]⟩
def sameM (x y : S49) : Bool := decide (x.f0 = y.f0) && (decide (x.f1 = y.f1) && (decide (x.f2 = y.f2) && (decide (x.f3.toList = y.f3.toList) && (decide (x.f4 = y.f4) && (x.f5 == y.f5 && (decide (x.f6 = y.f6) && sameI x.f7 y.f7))))))
theorem nest (p0 p1 p2 p3 p4 p6 : Prop) [Decidable p0] [Decidable p1] [Decidable p2] [Decidable p3] [Decidable p4] [Decidable p6] (b q : Bool) :
    (if p0 then (if p1 then (if p2 then (if p3 then (if p4 then (if b = true then (if p6 then some q else some false) else some false) else some false) else some false) else some false) else some false) else some false) = some (decide p0 && (decide p1 && (decide p2 && (decide p3 && (decide p4 && (b && (decide p6 && q))))))) := by
  by_cases h0 : p0 <;> by_cases h1 : p1 <;> by_cases h2 : p2 <;> by_cases h3 : p3 <;> by_cases h4 : p4 <;> by_cases h6 : p6 <;> cases b <;> simp [h0, h1, h2, h3, h4, h6]
theorem same_both (a : Int) (l : List S49) (b : Int) (m : List S49) (h : l.length ≤ 1048576) (hb : ∀ y ∈ l, okM y) :
    ∃ r, From (fun k => spec_l03Same.f k a l b m) r ∧ From (fun k => impl_SameLog.f k a l b m) r := by
  have j0 : ∀ k, spec_l03Same.j0 (k + 1) true a l b m = some false := fun k => by simp only [spec_l03Same.j0, if_true]
  by_cases ha : a = b
  · by_cases hl : l.length = m.length
    · have hli : (l.length : Int) = (m.length : Int) := by omega
      have hlb : ((l.length : Int) != (m.length : Int)) = false := by simp; omega
      obtain ⟨K1, e1⟩ := from_all (g := fun k j => spec_l00Same.f k (l.getD j zM).f7 (m.getD j zM).f7) (fun j => sameI (l.getD j zM).f7 (m.getD j zM).f7) l.length fun j hj => l00Same_from _ _ (hb _ (getD_mem zM hj)).2
      obtain ⟨K2, e2⟩ := from_all (g := fun k j => slices_Equal_int64_int64.f k (l.getD j zM).f7 (m.getD j zM).f7) (fun j => sameI (l.getD j zM).f7 (m.getD j zM).f7) l.length fun j hj => Equal_from _ _ (hb _ (getD_mem zM hj)).2
      obtain ⟨L1, f1⟩ := test_loopB (fun k i => spec_l03Same.l0 k l.length i a l b m) l.length K1 (fun j => sameM (l.getD j zM) (m.getD j zM)) true (fun k i hk h0 h1 => by
        have h2 : i < (m.length : Int) := by omega
        have w := e1 k hk i.toNat (by omega)
        simp only [spec_l03Same.l0, spec_l03SameMessage.f, h0, h1, h2, if_true, wsucc h0 (by omega), rd_T49, w, Option.bind_some, nest]
        rfl) (fun k _ => by simp only [spec_l03Same.l0, Int.lt_irrefl, if_false])
      obtain ⟨L2, f2⟩ := test_loopB (fun k i => impl_Message_sameMessage.l0 k m l l.length i) l.length K2 (fun j => sameM (l.getD j zM) (m.getD j zM)) true (fun k i hk h0 h1 => by
        have h2 : i < (m.length : Int) := by omega
        have w := e2 k hk i.toNat (by omega)
        simp only [impl_Message_sameMessage.l0, impl_sameMessage.f, h0, h1, h2, if_true, wsucc h0 (by omega), rd_T49, w, Option.bind_some, nest]
        rfl) (fun k _ => by simp only [impl_Message_sameMessage.l0, Int.lt_irrefl, if_false])
      refine ⟨(List.range l.length).all (fun j => sameM (l.getD j zM) (m.getD j zM)) && true, ⟨L1 + 1, fun k hk => ?_⟩, ⟨L2, fun k hk => ?_⟩⟩
      · obtain ⟨k, rfl⟩ : ∃ n, k = n + 1 := ⟨k - 1, by omega⟩
        simp only [spec_l03Same.f, ha, if_true, hlb, spec_l03Same.j0, Bool.false_eq_true, if_false]
        subst ha
        exact f1 k (by omega)
      · simp only [impl_SameLog.f, if_pos ha, impl_Message_sameMessage.f]
        rw [if_pos hli, f2 k hk]
        rfl
    · have hli : ¬ (l.length : Int) = (m.length : Int) := by omega
      have hlb : ((l.length : Int) != (m.length : Int)) = true := by simp; omega
      refine ⟨false, ⟨1, fun k hk => ?_⟩, ⟨0, fun k hk => ?_⟩⟩
      · obtain ⟨k, rfl⟩ : ∃ n, k = n + 1 := ⟨k - 1, by omega⟩
        simp only [spec_l03Same.f, ha, if_true, hlb]
        subst ha
        exact j0 k
      · simp only [impl_SameLog.f, ha, if_true, impl_Message_sameMessage.f, if_neg hli, Option.bind_some]
  · refine ⟨false, ⟨1, fun k hk => ?_⟩, ⟨0, fun k hk => ?_⟩⟩
    · obtain ⟨k, rfl⟩ : ∃ n, k = n + 1 := ⟨k - 1, by omega⟩
      simp only [spec_l03Same.f, if_neg ha, j0]
    · simp only [impl_SameLog.f, if_neg ha]
theorem FnExactSameLog : laws_FnExactSameLog.Pure := by
  intro a l b m _ ⟨h1, q1⟩ _ ⟨h2, q2⟩
  obtain ⟨s, ⟨K1, hs⟩, hc⟩ := szLog_tells a l 1048576 (by omega) (by omega) h1 q1
  rcases hc with hc | ⟨b1, b2, b3, b4⟩
  · exact ⟨K1, by simp only [laws_FnExactSameLog.f, hs K1 (Nat.le_refl _), Option.bind_some, hc, if_true]⟩
  have hn : ¬ s < 0 := by omega
  obtain ⟨s', ⟨K2, hs'⟩, hc'⟩ := szLog_tells b m s (by omega) (by omega) h2 q2
  rcases hc' with hc' | ⟨d1, d2, d3, d4⟩
  · refine ⟨K1 + K2 + 1, ?_⟩
    simp only [laws_FnExactSameLog.f, laws_FnExactSameLog.j0, hs (K1 + K2 + 1) (by omega), hs' (K1 + K2) (by omega), Option.bind_some, hn, hc', if_true, if_false]
  have hn' : ¬ s' < 0 := by omega
  obtain ⟨K3, e1⟩ := toLog_from a l b1 b2
  obtain ⟨K4, e2⟩ := toLog_from b m d1 d2
  obtain ⟨K5, e3⟩ := eqLog_from a (l.map convMessage) (by simpa using b1) (okM_conv b2)
  obtain ⟨K6, e4⟩ := eqLog_from b (m.map convMessage) (by simpa using d1) (okM_conv d2)
  obtain ⟨r, ⟨K7, e5⟩, ⟨K8, e6⟩⟩ := same_both a (l.map convMessage) b (m.map convMessage) (by simpa using b1) (okM_conv b2)
  generalize hK : K1 + K2 + K3 + K4 + K5 + K6 + K7 + K8 = K
  refine ⟨K + 9, ?_⟩
  have H1 := hs (K + 9) (by omega)
  have H2 := hs' (K + 8) (by omega)
  have E1 := fun i => e1 (K + i) (by omega)
  have E2 := fun i => e2 (K + i) (by omega)
  have E3 := fun i => e3 (K + i) (by omega)
  have E4 := fun i => e4 (K + i) (by omega)
  have E5 := fun i => e5 (K + i) (by omega)
  have E6 := fun i => e6 (K + i) (by omega)
  have hb : (r != r) = false := by simp
  simp only [laws_FnExactSameLog.f, laws_FnExactSameLog.j0, laws_FnExactSameLog.j1, laws_FnExactSameLog.j2, laws_FnExactSameLog.j3, spec_SameLog.f, H1, H2, hn, hn', hb, E1, E2, E3, E4, E5, E6, Option.bind_some, if_true, if_false, Bool.false_eq_true]

end Go.Proofs.Ytaafhggihebicaa.Pure
