/- The program's SamePresence returns what the reference's returns, for every two presences that can be read. -/
import Derived.Test.YtaafhggihebicaaXFnExactSamePresencex6
import Derived.Test.YtaafhggihebicaaXP
namespace Go.Proofs.Ytaafhggihebicaa.Pure
open Go.RowKit Go.Proofs.Ytaafhggihebicaa.XFnExactSamePresence Go.Proofs.YtaafhggihebicaaW.PrintWords Go.Proofs.YtaafhggihebicaaW.PrintLast Go.Proofs.Ytaafhggihebicaa.XP Go.Proofs.Ytaafhggihebicaa.XP Go.Proofs.Ytaafhggihebicaa.XP Go.Proofs.Ytaafhggihebicaa.XP
set_option linter.unusedVariables false
set_option linter.unusedSimpArgs false

def convLease : S136 → S90 := (fun x : S136 => (⟨x.f0, x.f1⟩ : S90))
theorem toLeaseS_from (l : List S136) (h : l.length ≤ 1048576) : From (fun k => laws_toLeaseS.f k l) (l.map convLease) := by
  obtain ⟨K, hK⟩ := fill_all (F := laws_toLeaseS.l0) convLease z136 z90 (fun k xs ys i h0 h1 h2 h3 => by
      simp only [laws_toLeaseS.l0, h0, h1, h2, if_true, laws_toLease.f, Option.bind_some, wsucc h0 h3]; rfl) (fun k xs ys i h => by simp only [laws_toLeaseS.l0, h, if_false]) l (by omega)
  refine ⟨K, fun k hk => ?_⟩
  simp only [laws_toLeaseS.f, Int.toNat_natCast]
  rw [if_pos (by omega), if_pos (by omega)]
  exact hK k hk
theorem eqLeaseS_from (l : List S90) (h : l.length ≤ 1048576) : From (fun k => laws_eqLeaseS.f k l l) true := by
  obtain ⟨K, hK⟩ := all_loop (fun k i => laws_eqLeaseS.l0 k l l i) l.length (by omega) 0 true (fun k i _ h0 h1 => by
      simp only [laws_eqLeaseS.l0, h0, h1, if_true, laws_eqLease.f, Option.bind_some, wsucc h0 (by omega)]) (fun k i _ h _ => by simp only [laws_eqLeaseS.l0, h, if_false])
  refine ⟨K, fun k hk => ?_⟩
  simp only [laws_eqLeaseS.f, if_true]
  exact hK k hk
def convMark : S138 → S85 := (fun x : S138 => (⟨x.f0, x.f1⟩ : S85))
theorem toMarkS_from (l : List S138) (h : l.length ≤ 1048576) : From (fun k => laws_toMarkS.f k l) (l.map convMark) := by
  obtain ⟨K, hK⟩ := fill_all (F := laws_toMarkS.l0) convMark z138 z85 (fun k xs ys i h0 h1 h2 h3 => by
      simp only [laws_toMarkS.l0, h0, h1, h2, if_true, laws_toMark.f, Option.bind_some, wsucc h0 h3]; rfl) (fun k xs ys i h => by simp only [laws_toMarkS.l0, h, if_false]) l (by omega)
  refine ⟨K, fun k hk => ?_⟩
  simp only [laws_toMarkS.f, Int.toNat_natCast]
  rw [if_pos (by omega), if_pos (by omega)]
  exact hK k hk
theorem eqMarkS_from (l : List S85) (h : l.length ≤ 1048576) : From (fun k => laws_eqMarkS.f k l l) true := by
  obtain ⟨K, hK⟩ := all_loop (fun k i => laws_eqMarkS.l0 k l l i) l.length (by omega) 0 true (fun k i _ h0 h1 => by
      simp only [laws_eqMarkS.l0, h0, h1, if_true, laws_eqMark.f, Option.bind_some, wsucc h0 (by omega)]) (fun k i _ h _ => by simp only [laws_eqMarkS.l0, h, if_false])
  refine ⟨K, fun k hk => ?_⟩
  simp only [laws_eqMarkS.f, if_true]
  exact hK k hk
theorem szLease_le (l : List S136) (a r : Int) (hl : l.length ≤ 9223372036854775807) (ha : 0 ≤ a) (ha2 : a ≤ 1048576) (h : laws_szLeaseS.f l a = some r) : r < 0 ∨ ((l.length : Int) ≤ a ∧ r = a - l.length) := by
  unfold laws_szLeaseS.f at h
  rw [w64 (show -9223372036854775808 ≤ a - (l.length : Int) by omega) (show a - (l.length : Int) ≤ 9223372036854775807 by omega)] at h
  split at h <;> (cases h; omega)
theorem szMark_le (l : List S138) (a r : Int) (hl : l.length ≤ 9223372036854775807) (ha : 0 ≤ a) (ha2 : a ≤ 1048576) (h : laws_szMarkS.f l a = some r) : r < 0 ∨ ((l.length : Int) ≤ a ∧ r = a - l.length) := by
  unfold laws_szMarkS.f at h
  rw [w64 (show -9223372036854775808 ≤ a - (l.length : Int) by omega) (show a - (l.length : Int) ≤ 9223372036854775807 by omega)] at h
  split at h <;> (cases h; omega)
theorem szLease_some (l : List S136) (a : Int) : ∃ r, laws_szLeaseS.f l a = some r := by unfold laws_szLeaseS.f; split <;> exact ⟨_, rfl⟩
theorem szMark_some (l : List S138) (a : Int) : ∃ r, laws_szMarkS.f l a = some r := by unfold laws_szMarkS.f; split <;> exact ⟨_, rfl⟩
theorem szPresence_tells (h t : List S136) (m : List S138) (a : Int) (ha : 0 ≤ a) (ha2 : a ≤ 1048576) (h1 : h.length ≤ 9223372036854775807) (h2 : t.length ≤ 9223372036854775807) (h3 : m.length ≤ 9223372036854775807) :
    ∃ r, laws_szPresence.f h t m a = some r ∧ (r < 0 ∨ (h.length ≤ 1048576 ∧ t.length ≤ 1048576 ∧ m.length ≤ 1048576 ∧ 0 ≤ r ∧ r ≤ a)) := by
  unfold laws_szPresence.f
  obtain ⟨r1, e1⟩ := szLease_some h a
  have b1 := szLease_le h a r1 h1 ha ha2 e1
  rw [e1, Option.bind_some]
  by_cases c1 : r1 < 0
  · rw [if_pos c1]; exact ⟨_, rfl, .inl (by omega)⟩
  rw [if_neg c1]
  obtain ⟨r2, e2⟩ := szLease_some t r1
  have b2 := szLease_le t r1 r2 h2 (by omega) (by omega) e2
  rw [e2, Option.bind_some]
  by_cases c2 : r2 < 0
  · rw [if_pos c2]; exact ⟨_, rfl, .inl (by omega)⟩
  rw [if_neg c2]
  obtain ⟨r3, e3⟩ := szMark_some m r2
  have b3 := szMark_le m r2 r3 h3 (by omega) (by omega) e3
  rw [e3, Option.bind_some]
  by_cases c3 : r3 < 0
  · rw [if_pos c3]; exact ⟨_, rfl, .inl (by omega)⟩
  rw [if_neg c3]
  exact ⟨_, rfl, .inr (by omega)⟩
theorem toPresence_from (h t : List S136) (m : List S138) (h1 : h.length ≤ 1048576) (h2 : t.length ≤ 1048576) (h3 : m.length ≤ 1048576) :
    From (fun k => laws_toPresence.f k h t m) (h.map convLease, t.map convLease, m.map convMark) := by
  obtain ⟨K1, e1⟩ := toLeaseS_from h h1
  obtain ⟨K2, e2⟩ := toLeaseS_from t h2
  obtain ⟨K3, e3⟩ := toMarkS_from m h3
  refine ⟨K1 + K2 + K3, fun k hk => ?_⟩
  simp only [laws_toPresence.f, e1 k (by omega), e2 k (by omega), e3 k (by omega), Option.bind_some]
theorem eqPresence_from (h t : List S90) (m : List S85) (h1 : h.length ≤ 1048576) (h2 : t.length ≤ 1048576) (h3 : m.length ≤ 1048576) :
    From (fun k => laws_eqPresence.f k h t m h t m) true := by
  obtain ⟨K1, e1⟩ := eqLeaseS_from h h1
  obtain ⟨K2, e2⟩ := eqLeaseS_from t h2
  obtain ⟨K3, e3⟩ := eqMarkS_from m h3
  refine ⟨K1 + K2 + K3, fun k hk => ?_⟩
  simp only [laws_eqPresence.f, e1 k (by omega), e2 k (by omega), e3 k (by omega), Option.bind_some, if_true]
def sameLease (x y : S90) : Bool := x.f0 == y.f0 && x.f1 == y.f1
theorem spec_l05SameLeases_from (l m : List S90) (h : l.length ≤ 1048576) : From (fun k => spec_l05SameLeases.f k l m) (decide (l.length = m.length) && (List.range l.length).all fun j => sameLease (l.getD j z90) (m.getD j z90)) := by
  by_cases hl : l.length = m.length
  · obtain ⟨K, hK⟩ := test_loopB (fun k i => spec_l05SameLeases.l0 k l m l.length i) l.length 0 (fun j => sameLease (l.getD j z90) (m.getD j z90)) true (fun k i _ h0 h1 => by
      have h2 : i < (m.length : Int) := by omega
      simp only [spec_l05SameLeases.l0, h0, h1, h2, if_true, wsucc h0 (by omega), sameLease, rd_T90]
      by_cases c0 : (l.getD i.toNat z90).f0 = (m.getD i.toNat z90).f0 <;> by_cases c1 : (l.getD i.toNat z90).f1 = (m.getD i.toNat z90).f1 <;> simp [c0, c1, -List.getD_eq_getElem?_getD]) (fun k _ => by simp only [spec_l05SameLeases.l0, Int.lt_irrefl, if_false])
    refine ⟨K, fun k hk => ?_⟩
    have h1 : (l.length : Int) = (m.length : Int) := by omega
    simp only [spec_l05SameLeases.f, h1, if_true]
    rw [← h1, hK k hk, hl]
    simp only [decide_true, Bool.true_and, Bool.and_true]
  · refine ⟨0, fun k _ => ?_⟩
    have h1 : ¬ (l.length : Int) = (m.length : Int) := by omega
    simp only [spec_l05SameLeases.f, h1, if_false, hl, decide_false, Bool.false_and]
def sameMark (x y : S85) : Bool := x.f0 == y.f0 && x.f1 == y.f1
theorem impl_Mark_from (l m : List S85) (h : l.length ≤ 1048576) : From (fun k => impl_Mark.f k l m) (decide (l.length = m.length) && (List.range l.length).all fun j => sameMark (l.getD j z85) (m.getD j z85)) := by
  by_cases hl : l.length = m.length
  · obtain ⟨K, hK⟩ := test_loopB (fun k i => impl_Mark.l0 k l m l.length i) l.length 0 (fun j => sameMark (l.getD j z85) (m.getD j z85)) true (fun k i _ h0 h1 => by
      have h2 : i < (m.length : Int) := by omega
      simp only [impl_Mark.l0, h0, h1, h2, if_true, wsucc h0 (by omega), sameMark, rd_T85]
      by_cases c0 : (l.getD i.toNat z85).f0 = (m.getD i.toNat z85).f0 <;> by_cases c1 : (l.getD i.toNat z85).f1 = (m.getD i.toNat z85).f1 <;> simp [c0, c1, -List.getD_eq_getElem?_getD]) (fun k _ => by simp only [impl_Mark.l0, Int.lt_irrefl, if_false])
    refine ⟨K, fun k hk => ?_⟩
    have h1 : (l.length : Int) = (m.length : Int) := by omega
    simp only [impl_Mark.f, h1, if_true]
    rw [← h1, hK k hk, hl]
    simp only [decide_true, Bool.true_and, Bool.and_true]
  · refine ⟨0, fun k _ => ?_⟩
    have h1 : ¬ (l.length : Int) = (m.length : Int) := by omega
    simp only [impl_Mark.f, h1, if_false, hl, decide_false, Bool.false_and]
theorem impl_Lease_from (l m : List S90) (h : l.length ≤ 1048576) : From (fun k => impl_Lease.f k l m) (decide (l.length = m.length) && (List.range l.length).all fun j => sameLease (l.getD j z90) (m.getD j z90)) := by
  have e : ∀ k i, impl_Lease.l0 k l m l.length i = spec_l05SameLeases.l0 k l m l.length i := by
    intro k
    induction k with
    | zero => intro i; rfl
    | succ k ih => intro i; simp only [impl_Lease.l0, spec_l05SameLeases.l0, ih]
  have e2 : ∀ k, impl_Lease.f k l m = spec_l05SameLeases.f k l m := fun k => by simp only [impl_Lease.f, spec_l05SameLeases.f, e]
  obtain ⟨K, hK⟩ := spec_l05SameLeases_from l m h
  exact ⟨K, fun k hk => (e2 k).trans (hK k hk)⟩
theorem same_both (h t : List S90) (m : List S85) (h' t' : List S90) (m' : List S85) (b1 : h.length ≤ 1048576) (b2 : t.length ≤ 1048576) (b3 : m.length ≤ 1048576) :
    ∃ r, From (fun k => spec_SamePresence.f k h t m h' t' m') r ∧ From (fun k => impl_SamePresence.f k h t m h' t' m') r := by
  obtain ⟨K1, e1⟩ := spec_l05SameLeases_from h h' b1
  obtain ⟨K2, e2⟩ := spec_l05SameLeases_from t t' b2
  obtain ⟨K4, e4⟩ := impl_Lease_from h h' b1
  obtain ⟨K5, e5⟩ := impl_Lease_from t t' b2
  obtain ⟨K6, e6⟩ := impl_Mark_from m m' b3
  generalize (decide (h.length = h'.length) && (List.range h.length).all fun j => sameLease (h.getD j z90) (h'.getD j z90)) = r1 at *
  generalize (decide (t.length = t'.length) && (List.range t.length).all fun j => sameLease (t.getD j z90) (t'.getD j z90)) = r2 at *
  by_cases hl : m.length = m'.length
  · have hli : (m.length : Int) = (m'.length : Int) := by omega
    obtain ⟨K3, e3⟩ := test_loopB (fun k i => spec_SamePresence.l0 k m.length i h t m h' t' m') m.length (K1 + K2) (fun j => sameMark (m.getD j z85) (m'.getD j z85)) (r1 && r2) (fun k i _ h0 h1 => by
      have h2 : i < (m'.length : Int) := by omega
      simp only [spec_SamePresence.l0, h0, h1, h2, if_true, wsucc h0 (by omega), sameMark, rd_T85]
      by_cases c0 : (m.getD i.toNat z85).f0 = (m'.getD i.toNat z85).f0 <;> by_cases c1 : (m.getD i.toNat z85).f1 = (m'.getD i.toNat z85).f1 <;> simp [c0, c1, -List.getD_eq_getElem?_getD]) (fun k hk => by
      simp only [spec_SamePresence.l0, Int.lt_irrefl, if_false, e1 k (by omega), e2 k (by omega), Option.bind_some]
      cases r1 <;> simp)
    refine ⟨(List.range m.length).all (fun j => sameMark (m.getD j z85) (m'.getD j z85)) && (r1 && r2), ⟨K3, fun k hk => ?_⟩, ⟨K4 + K5 + K6, fun k hk => ?_⟩⟩
    · simp only [spec_SamePresence.f, hli, if_true]
      rw [← hli]
      exact e3 k hk
    · simp only [impl_SamePresence.f, e4 k (by omega), e5 k (by omega), e6 k (by omega), Option.bind_some, hl, decide_true, Bool.true_and]
      cases r1 <;> cases r2 <;> simp
  · have hli : ¬ (m.length : Int) = (m'.length : Int) := by omega
    refine ⟨false, ⟨0, fun k hk => by simp only [spec_SamePresence.f, hli, if_false]⟩, ⟨K4 + K5 + K6, fun k hk => ?_⟩⟩
    simp only [impl_SamePresence.f, e4 k (by omega), e5 k (by omega), e6 k (by omega), Option.bind_some, hl, decide_false, Bool.false_and]
    cases r1 <;> cases r2 <;> simp
theorem FnExactSamePresence : laws_FnExactSamePresence.Pure := by
  intro h t m h' t' m' ⟨h1, _⟩ ⟨h2, _⟩ ⟨h3, _⟩ ⟨h1', _⟩ ⟨h2', _⟩ ⟨h3', _⟩
  obtain ⟨s, hs, hc⟩ := szPresence_tells h t m 1048576 (by omega) (by omega) h1 h2 h3
  rcases hc with hc | ⟨b1, b2, b3, b4, b5⟩
  · exact ⟨0, by simp only [laws_FnExactSamePresence.f, hs, Option.bind_some, hc, if_true]⟩
  have hn : ¬ s < 0 := by omega
  obtain ⟨s', hs', hc'⟩ := szPresence_tells h' t' m' s (by omega) (by omega) h1' h2' h3'
  rcases hc' with hc' | ⟨d1, d2, d3, d4, d5⟩
  · exact ⟨1, by simp only [laws_FnExactSamePresence.f, laws_FnExactSamePresence.j0, hs, hn, hs', Option.bind_some, hc', if_true, if_false]⟩
  have hn' : ¬ s' < 0 := by omega
  obtain ⟨K1, e1⟩ := toPresence_from h t m b1 b2 b3
  obtain ⟨K2, e2⟩ := toPresence_from h' t' m' d1 d2 d3
  obtain ⟨K3, e3⟩ := eqPresence_from (h.map convLease) (t.map convLease) (m.map convMark) (by simpa using b1) (by simpa using b2) (by simpa using b3)
  obtain ⟨K4, e4⟩ := eqPresence_from (h'.map convLease) (t'.map convLease) (m'.map convMark) (by simpa using d1) (by simpa using d2) (by simpa using d3)
  obtain ⟨r, ⟨K5, e5⟩, ⟨K6, e6⟩⟩ := same_both (h.map convLease) (t.map convLease) (m.map convMark) (h'.map convLease) (t'.map convLease) (m'.map convMark) (by simpa using b1) (by simpa using b2) (by simpa using b3)
  generalize hK : K1 + K2 + K3 + K4 + K5 + K6 = K
  refine ⟨K + 9, ?_⟩
  simp (disch := omega) only [laws_FnExactSamePresence.f, laws_FnExactSamePresence.j0, laws_FnExactSamePresence.j1, laws_FnExactSamePresence.j2, laws_FnExactSamePresence.j3, hs, hn, hs', hn', e1, e2, e3, e4, e5, e6, Option.bind_some, if_true, if_false]
  simp

end Go.Proofs.Ytaafhggihebicaa.Pure
