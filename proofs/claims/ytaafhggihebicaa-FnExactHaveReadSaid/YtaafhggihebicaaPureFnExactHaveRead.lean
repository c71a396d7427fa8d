/- The program's HaveRead returns what the reference's returns, for every presence and number that can be read. -/
import Derived.Test.YtaafhggihebicaaXFnExactHaveReadx8
import Derived.Test.YtaafhggihebicaaXP
namespace Go.Proofs.Ytaafhggihebicaa.Pure
open Go.RowKit Go.Proofs.Ytaafhggihebicaa.XFnExactHaveRead Go.Proofs.YtaafhggihebicaaW.PrintWords Go.Proofs.YtaafhggihebicaaW.PrintLast Go.Proofs.Ytaafhggihebicaa.XP
set_option linter.unusedVariables false
set_option linter.unusedSimpArgs false

theorem in_eq (a b c : Int) : spec_l00In.f a b c = impl_in.f a b c := rfl
theorem in_some (a b c : Int) : impl_in.f a b c = some (decide (b ≤ a ∧ a ≤ c)) := by
  unfold impl_in.f
  split
  · congr 1; rw [decide_eq_decide]; omega
  · congr 1; symm; rw [decide_eq_false_iff_not]; omega

def convLease : S136 → S90 := (fun x : S136 => (⟨x.f0, x.f1⟩ : S90))
theorem toLeaseS_from (l : List S136) (h : l.length ≤ 1048576) : From (fun k => laws_toLeaseS.f k l) (l.map convLease) := by
  obtain ⟨K, hK⟩ := fill_all (F := laws_toLeaseS.l0) convLease z136 z90 (fun k xs ys i h0 h1 h2 h3 => by
      simp only [laws_toLeaseS.l0, h0, h1, h2, if_true, laws_toLease.f, Option.bind_some, wsucc h0 h3]; rfl) (fun k xs ys i h => by simp only [laws_toLeaseS.l0, h, if_false]) l (by omega)
  refine ⟨K, fun k hk => ?_⟩
  simp only [laws_toLeaseS.f, Int.toNat_natCast]
  rw [if_pos (by omega), if_pos (by omega)]
  exact hK k hk
theorem eqLeaseS_from (l : List S90) (h : l.length ≤ 1048576) : From (fun k => laws_eqLeaseS.f k l l) true := by
  obtain ⟨K, hK⟩ := all_loop (fun k i => laws_eqLeaseS.l0 k l l i) l.length (by omega) 0 true (fun k i _ h0 h1 => by
      simp only [laws_eqLeaseS.l0, h0, h1, if_true, laws_eqLease.f, Option.bind_some, wsucc h0 (by omega)]) (fun k i _ h _ => by simp only [laws_eqLeaseS.l0, h, if_false])
  refine ⟨K, fun k hk => ?_⟩
  simp only [laws_eqLeaseS.f, if_true]
  exact hK k hk
def convMark : S138 → S85 := (fun x : S138 => (⟨x.f0, x.f1⟩ : S85))
theorem toMarkS_from (l : List S138) (h : l.length ≤ 1048576) : From (fun k => laws_toMarkS.f k l) (l.map convMark) := by
  obtain ⟨K, hK⟩ := fill_all (F := laws_toMarkS.l0) convMark z138 z85 (fun k xs ys i h0 h1 h2 h3 => by
      simp only [laws_toMarkS.l0, h0, h1, h2, if_true, laws_toMark.f, Option.bind_some, wsucc h0 h3]; rfl) (fun k xs ys i h => by simp only [laws_toMarkS.l0, h, if_false]) l (by omega)
  refine ⟨K, fun k hk => ?_⟩
  simp only [laws_toMarkS.f, Int.toNat_natCast]
  rw [if_pos (by omega), if_pos (by omega)]
  exact hK k hk
theorem eqMarkS_from (l : List S85) (h : l.length ≤ 1048576) : From (fun k => laws_eqMarkS.f k l l) true := by
  obtain ⟨K, hK⟩ := all_loop (fun k i => laws_eqMarkS.l0 k l l i) l.length (by omega) 0 true (fun k i _ h0 h1 => by
      simp only [laws_eqMarkS.l0, h0, h1, if_true, laws_eqMark.f, Option.bind_some, wsucc h0 (by omega)]) (fun k i _ h _ => by simp only [laws_eqMarkS.l0, h, if_false])
  refine ⟨K, fun k hk => ?_⟩
  simp only [laws_eqMarkS.f, if_true]
  exact hK k hk
theorem szLease_le (l : List S136) (a r : Int) (hl : l.length ≤ 9223372036854775807) (ha : 0 ≤ a) (ha2 : a ≤ 1048576) (h : laws_szLeaseS.f l a = some r) : r < 0 ∨ ((l.length : Int) ≤ a ∧ r = a - l.length) := by
  unfold laws_szLeaseS.f at h
  rw [w64 (show -9223372036854775808 ≤ a - (l.length : Int) by omega) (show a - (l.length : Int) ≤ 9223372036854775807 by omega)] at h
  split at h <;> (cases h; omega)
theorem szMark_le (l : List S138) (a r : Int) (hl : l.length ≤ 9223372036854775807) (ha : 0 ≤ a) (ha2 : a ≤ 1048576) (h : laws_szMarkS.f l a = some r) : r < 0 ∨ ((l.length : Int) ≤ a ∧ r = a - l.length) := by
  unfold laws_szMarkS.f at h
  rw [w64 (show -9223372036854775808 ≤ a - (l.length : Int) by omega) (show a - (l.length : Int) ≤ 9223372036854775807 by omega)] at h
  split at h <;> (cases h; omega)
theorem szLease_some (l : List S136) (a : Int) : ∃ r, laws_szLeaseS.f l a = some r := by unfold laws_szLeaseS.f; split <;> exact ⟨_, rfl⟩
theorem szMark_some (l : List S138) (a : Int) : ∃ r, laws_szMarkS.f l a = some r := by unfold laws_szMarkS.f; split <;> exact ⟨_, rfl⟩
theorem szPresence_tells (h t : List S136) (m : List S138) (a : Int) (ha : 0 ≤ a) (ha2 : a ≤ 1048576) (h1 : h.length ≤ 9223372036854775807) (h2 : t.length ≤ 9223372036854775807) (h3 : m.length ≤ 9223372036854775807) :
    ∃ r, laws_szPresence.f h t m a = some r ∧ (r < 0 ∨ (h.length ≤ 1048576 ∧ t.length ≤ 1048576 ∧ m.length ≤ 1048576 ∧ 0 ≤ r ∧ r ≤ a)) := by
  unfold laws_szPresence.f
  obtain ⟨r1, e1⟩ := szLease_some h a
  have b1 := szLease_le h a r1 h1 ha ha2 e1
  rw [e1, Option.bind_some]
  by_cases c1 : r1 < 0
  · rw [if_pos c1]; exact ⟨_, rfl, .inl (by omega)⟩
  rw [if_neg c1]
  obtain ⟨r2, e2⟩ := szLease_some t r1
  have b2 := szLease_le t r1 r2 h2 (by omega) (by omega) e2
  rw [e2, Option.bind_some]
  by_cases c2 : r2 < 0
  · rw [if_pos c2]; exact ⟨_, rfl, .inl (by omega)⟩
  rw [if_neg c2]
  obtain ⟨r3, e3⟩ := szMark_some m r2
  have b3 := szMark_le m r2 r3 h3 (by omega) (by omega) e3
  rw [e3, Option.bind_some]
  by_cases c3 : r3 < 0
  · rw [if_pos c3]; exact ⟨_, rfl, .inl (by omega)⟩
  rw [if_neg c3]
  exact ⟨_, rfl, .inr (by omega)⟩
theorem toPresence_from (h t : List S136) (m : List S138) (h1 : h.length ≤ 1048576) (h2 : t.length ≤ 1048576) (h3 : m.length ≤ 1048576) :
    From (fun k => laws_toPresence.f k h t m) (h.map convLease, t.map convLease, m.map convMark) := by
  obtain ⟨K1, e1⟩ := toLeaseS_from h h1
  obtain ⟨K2, e2⟩ := toLeaseS_from t h2
  obtain ⟨K3, e3⟩ := toMarkS_from m h3
  refine ⟨K1 + K2 + K3, fun k hk => ?_⟩
  simp only [laws_toPresence.f, e1 k (by omega), e2 k (by omega), e3 k (by omega), Option.bind_some]
theorem eqPresence_from (h t : List S90) (m : List S85) (h1 : h.length ≤ 1048576) (h2 : t.length ≤ 1048576) (h3 : m.length ≤ 1048576) :
    From (fun k => laws_eqPresence.f k h t m h t m) true := by
  obtain ⟨K1, e1⟩ := eqLeaseS_from h h1
  obtain ⟨K2, e2⟩ := eqLeaseS_from t h2
  obtain ⟨K3, e3⟩ := eqMarkS_from m h3
  refine ⟨K1 + K2 + K3, fun k hk => ?_⟩
  simp only [laws_eqPresence.f, e1 k (by omega), e2 k (by omega), e3 k (by omega), Option.bind_some, if_true]
theorem leases_both (l : List S90) (hl : l.length ≤ 1048576) : ∃ r, From (fun k => spec_l05Leases.f k l) r ∧ From (fun k => impl_leasesOk.f k l) r := by
  refine pair_loop (fun k i => spec_l05Leases.l0 k l l.length i) (fun k i => impl_leasesOk.l0 k l l l.length i) l.length 0 (fun k i _ h0 h1 => ?_) ⟨decide ((l.length : Int) ≤ 30), fun k _ => ⟨?_, ?_⟩⟩ (fun k i => spec_l05Leases.mono_l k _ _ _) (fun k i => impl_leasesOk.mono_l k _ _ _ _)
  · simp only [spec_l05Leases.l0, impl_leasesOk.l0, h0, h1, if_true, spec_l01Member.f, spec_l01Tick.f, impl_isMember.f, impl_isTick.f, in_eq, in_some, Option.bind_some, wsucc h0 (by omega), wpred h0 (by omega), decide_eq_true_eq]
    by_cases c1 : 1 ≤ (rd_T90 l i).f0 ∧ (rd_T90 l i).f0 ≤ 1000
    · by_cases c2 : 0 ≤ (rd_T90 l i).f1 ∧ (rd_T90 l i).f1 ≤ 1000000
      · by_cases c3 : i > 0
        · have c4 : 0 ≤ i - 1 := by omega
          have c7 : 1 ≤ i := by omega
          have c5 : i - 1 < (l.length : Int) := by omega
          by_cases c6 : (rd_T90 l (i - 1)).f0 ≥ (rd_T90 l i).f0
          · simp [c1, c2, c3, c4, c5, c6, c7]
          · simp [c1, c2, c3, c4, c5, c6, c7]
        · simp [c1, c2, c3]
      · simp [c1, c2]
    · simp [c1]
  · simp only [spec_l05Leases.l0, Int.lt_irrefl, if_false]
  · simp only [impl_leasesOk.l0, Int.lt_irrefl, if_false]
theorem valid_both (h t : List S90) (m : List S85) (h1 : h.length ≤ 1048576) (h2 : t.length ≤ 1048576) (h3 : m.length ≤ 1048576) :
    ∃ r, From (fun k => spec_l05Is.f k h t m) r ∧ From (fun k => impl_ValidPresence.f k h t m) r := by
  obtain ⟨r1, ⟨K1, e1⟩, ⟨L1, f1⟩⟩ := leases_both h h1
  obtain ⟨r2, ⟨K2, e2⟩, ⟨L2, f2⟩⟩ := leases_both t h2
  refine pair_loop (fun k i => spec_l05Is.l0 k m.length i h t m) (fun k i => impl_ValidPresence.l0 k m m.length i h t m) m.length (K1 + L1 + K2 + L2) (fun k i _ h0 h1 => ?_) ⟨decide ((m.length : Int) ≤ 30) && r1 && r2, fun k hk => ⟨?_, ?_⟩⟩ (fun k i => spec_l05Is.mono_l k _ _ _ _ _) (fun k i => impl_ValidPresence.mono_l k _ _ _ _ _ _)
  · simp only [spec_l05Is.l0, impl_ValidPresence.l0, h0, h1, if_true, spec_l01Member.f, impl_isMember.f, in_eq, in_some, Option.bind_some, wsucc h0 (by omega), wpred h0 (by omega), decide_eq_true_eq]
    by_cases c1 : 1 ≤ (rd_T85 m i).f0 ∧ (rd_T85 m i).f0 ≤ 1000
    · by_cases c2 : 0 ≤ (rd_T85 m i).f1 ∧ (rd_T85 m i).f1 ≤ 1000000000
      · by_cases c3 : i > 0
        · have c4 : 0 ≤ i - 1 := by omega
          have c7 : 1 ≤ i := by omega
          have c5 : i - 1 < (m.length : Int) := by omega
          by_cases c6 : (rd_T85 m (i - 1)).f0 ≥ (rd_T85 m i).f0
          · simp [c1, c2, c3, c4, c5, c6, c7]
          · simp [c1, c2, c3, c4, c5, c6, c7]
        · simp [c1, c2, c3]
      · simp [c1, c2]
    · simp [c1]
  · simp only [spec_l05Is.l0, Int.lt_irrefl, if_false, e1 k (by omega), e2 k (by omega), Option.bind_some]
    by_cases c : (m.length : Int) ≤ 30 <;> cases r1 <;> cases r2 <;> simp [c]
  · simp only [impl_ValidPresence.l0, Int.lt_irrefl, if_false, f1 k (by omega), f2 k (by omega), Option.bind_some]
    by_cases c : (m.length : Int) ≤ 30 <;> cases r1 <;> cases r2 <;> simp [c]
theorem markLeaseS_from (l : List S90) (m : Int) (hm : 0 ≤ m) (hb : m ≤ 4294967296) (h : l.length ≤ 1048576) :
    ∃ ys, From (fun k => laws_markLeaseS.f k l m) (m + 2 * l.length, ys) ∧ ys.length = l.length ∧ ∀ j : Nat, j < l.length → ys[j]? = some (⟨m + 2 * j, m + 2 * j + 1⟩ : S90) :=
  mark_all (F := fun k xs m i => laws_markLeaseS.l0 k xs m i) 2 (by omega) (by omega) (fun m => (⟨m, m + 1⟩ : S90)) (fun k xs m i h0 h1 h2 h3 h4 => by
    have hi : i.toNat < xs.length := by omega
    simp only [laws_markLeaseS.l0, h0, h1, if_true, wsucc h0 h2, Option.bind_some, rd_T90, getD_set hi, List.set_set, List.length_set, wsucc (show 0 ≤ m by omega) (by omega), wsucc (show 0 ≤ m + 1 by omega) (by omega)]
    congr 1; omega) (fun k xs m i h => by simp only [laws_markLeaseS.l0, h, if_false]) l m hm (by have := mul_mono (c := 2) (by omega) h; omega) (by omega)
theorem markMarkS_from (l : List S85) (m : Int) (hm : 0 ≤ m) (hb : m ≤ 4294967296) (h : l.length ≤ 1048576) :
    ∃ ys, From (fun k => laws_markMarkS.f k l m) (m + 2 * l.length, ys) ∧ ys.length = l.length ∧ ∀ j : Nat, j < l.length → ys[j]? = some (⟨m + 2 * j, m + 2 * j + 1⟩ : S85) :=
  mark_all (F := fun k xs m i => laws_markMarkS.l0 k xs m i) 2 (by omega) (by omega) (fun m => (⟨m, m + 1⟩ : S85)) (fun k xs m i h0 h1 h2 h3 h4 => by
    have hi : i.toNat < xs.length := by omega
    simp only [laws_markMarkS.l0, h0, h1, if_true, wsucc h0 h2, Option.bind_some, rd_T85, getD_set hi, List.set_set, List.length_set, wsucc (show 0 ≤ m by omega) (by omega), wsucc (show 0 ≤ m + 1 by omega) (by omega)]
    congr 1; omega) (fun k xs m i h => by simp only [laws_markMarkS.l0, h, if_false]) l m hm (by have := mul_mono (c := 2) (by omega) h; omega) (by omega)
theorem markPresence_from (h t : List S90) (m : List S85) (h1 : h.length ≤ 1048576) (h2 : t.length ≤ 1048576) (h3 : m.length ≤ 1048576) :
    ∃ r, From (fun k => laws_markPresence.f k h t m 1) r ∧ ¬ r.1 < 0 := by
  obtain ⟨y1, ⟨K1, e1⟩, _, _⟩ := markLeaseS_from h 1 (by omega) (by omega) h1
  obtain ⟨y2, ⟨K2, e2⟩, _, _⟩ := markLeaseS_from t (1 + 2 * h.length) (by omega) (by omega) h2
  obtain ⟨y3, ⟨K3, e3⟩, _, _⟩ := markMarkS_from m (1 + 2 * h.length + 2 * t.length) (by omega) (by omega) h3
  refine ⟨(1 + 2 * h.length + 2 * t.length + 2 * m.length, y1, y2, y3), ⟨K1 + K2 + K3, fun k hk => ?_⟩, by simp only; omega⟩
  simp only [laws_markPresence.f, e1 k (by omega), e2 k (by omega), e3 k (by omega), Option.bind_some]
theorem eqInt64S_from (l : List Int) (h : l.length ≤ 1073741824) : From (fun k => laws_eqInt64S.f k l l) true := by
  obtain ⟨K, hK⟩ := all_loop (fun k i => laws_eqInt64S.l0 k l l i) l.length (by omega) 0 true (fun k i _ h0 h1 => by
      simp only [laws_eqInt64S.l0, h0, h1, if_true, wsucc h0 (by omega)]) (fun k i _ h _ => by simp only [laws_eqInt64S.l0, h, if_false])
  refine ⟨K, fun k hk => ?_⟩
  simp only [laws_eqInt64S.f, if_true]
  exact hK k hk
theorem markInt64S_from (l : List Int) (m : Int) (hm : 0 ≤ m) (hb : m ≤ 4294967296) (h : l.length ≤ 1073741824) :
    ∃ ys, From (fun k => laws_markInt64S.f k l m) (m + 1 * l.length, ys) ∧ ys.length = l.length ∧ ∀ j : Nat, j < l.length → ys[j]? = some (m + 1 * j) :=
  mark_all (F := fun k xs m i => laws_markInt64S.l0 k xs m i) 1 (by omega) (by omega) (fun m => m) (fun k xs m i h0 h1 h2 h3 h4 => by
    simp only [laws_markInt64S.l0, h0, h1, if_true, wsucc h0 h2, wsucc h3 (by omega)]) (fun k xs m i h => by simp only [laws_markInt64S.l0, h, if_false]) l m hm (by omega) (by omega)
theorem heldInt64S_from (ys : List Int) (m : Int) (hm : 0 ≤ m) (hb : m ≤ 4294967296) (h : ys.length ≤ 1073741824) (hy : ∀ j : Nat, j < ys.length → ys[j]? = some (m + 1 * j)) :
    From (fun k => laws_heldInt64S.f k ys m) (m + 1 * ys.length) := by
  obtain ⟨K, hK⟩ := all_loop (fun k i => laws_heldInt64S.l0 k ys (m + 1 * i) i) ys.length (by omega) 0 (m + 1 * ys.length) (fun k i _ h0 h1 => by
      have hr : rd ys i = m + 1 * i := by
        have := hy i.toNat (by omega)
        rw [rd, getD_of this]; omega
      simp only [laws_heldInt64S.l0, h0, h1, if_true, hr, wsucc h0 (by omega), wsucc (show 0 ≤ m + 1 * i by omega) (by omega)]
      congr 1; omega) (fun k i _ h he => by subst he; simp only [laws_heldInt64S.l0, h, if_false])
  refine ⟨K, fun k hk => ?_⟩
  simp only [laws_heldInt64S.f]
  have := hK k hk
  simpa using this
/-- What the law does to numbers that were returned: equal to themselves, marked, and the marks held. -/
theorem ints_law (l : List Int) (h : l.length ≤ 1073741824) : ∃ ys : List Int, From (fun k => laws_markInt64S.f k l 1) (1 + l.length, ys) ∧ From (fun k => laws_heldInt64S.f k ys 1) (1 + l.length) := by
  obtain ⟨ys, h1, h2, h3⟩ := markInt64S_from l 1 (by omega) (by omega) h
  refine ⟨ys, by simpa using h1, ?_⟩
  have := heldInt64S_from ys 1 (by omega) (by omega) (by omega) (fun j hj => h3 j (by omega))
  rw [h2] at this
  simpa using this
/-- The law over a presence and a number, whose answer is a list of numbers: from what both answer. -/
theorem law_end (hb : ∀ (h t : List S90) (m : List S85) (a : Int), h.length ≤ 1048576 → t.length ≤ 1048576 → m.length ≤ 1048576 → ∃ g : List Int × Bool, g.1.length ≤ 1048576 ∧ From (fun k => spec_HaveRead.f k h t m a) g ∧ From (fun k => impl_HaveRead.f k h t m a) g) : laws_FnExactHaveRead.Pure := by
  intro h t m a ⟨h1, _⟩ ⟨h2, _⟩ ⟨h3, _⟩ _
  obtain ⟨s, hs, hc⟩ := szPresence_tells h t m 1048576 (by omega) (by omega) h1 h2 h3
  rcases hc with hc | ⟨b1, b2, b3, b4, b5⟩
  · exact ⟨0, by simp only [laws_FnExactHaveRead.f, hs, Option.bind_some, hc, if_true]⟩
  obtain ⟨K1, e1⟩ := toPresence_from h t m b1 b2 b3
  have b1' : (h.map convLease).length ≤ 1048576 := by simpa using b1
  have b2' : (t.map convLease).length ≤ 1048576 := by simpa using b2
  have b3' : (m.map convMark).length ≤ 1048576 := by simpa using b3
  generalize h.map convLease = h' at *
  generalize t.map convLease = t' at *
  generalize m.map convMark = m' at *
  obtain ⟨K2, e2⟩ := eqPresence_from h' t' m' b1' b2' b3'
  obtain ⟨u, ⟨K7, e7⟩, hu⟩ := markPresence_from h' t' m' b1' b2' b3'
  obtain ⟨g, hg, ⟨K8, e8⟩, ⟨K9, e9⟩⟩ := hb h' t' m' a b1' b2' b3'
  obtain ⟨K10, e10⟩ := eqInt64S_from g.1 (by omega)
  obtain ⟨ys, ⟨K11, e11⟩, ⟨K12, e12⟩⟩ := ints_law g.1 (by omega)
  generalize hK : K1 + K2 + K7 + K8 + K9 + K10 + K11 + K12 = K
  refine ⟨K + 3, ?_⟩
  have hn : ¬ s < 0 := by omega
  have hp : ¬ (1 + (g.1.length : Int)) < 0 := by omega
  simp [laws_FnExactHaveRead.f, laws_FnExactHaveRead.j0, laws_FnExactHaveRead.j1, laws_FnExactHaveRead.j2, hs, hn, hu, hp, e1 (K + 3) (by omega), e1 (K + 2) (by omega), e1 (K + 1) (by omega), e8 (K + 3) (by omega), e9 (K + 3) (by omega), e9 (K + 1) (by omega),
    e2 (K + 2) (by omega), e7 (K + 2) (by omega), e10 (K + 3) (by omega), e10 (K + 2) (by omega), e10 (K + 1) (by omega), e11 (K + 1) (by omega), e12 (K + 1) (by omega), e12 K (by omega)]
theorem read_both (h t : List S90) (m : List S85) (a : Int) (h1 : m.length ≤ 1048576) :
    ∃ r : List Int × Bool, (From (fun k => spec_HaveRead.l0 k a [] m.length 0 h t m) r ∧ From (fun k => impl_HaveRead.l0 k a [] m m.length 0) r) ∧ r.1.length ≤ 1048576 := by
  have key : ∀ (n k : Nat) (out : List Int) (i : Int), 0 ≤ i → i ≤ m.length → (m.length : Int) - i = n → n < k → (out.length : Int) ≤ i →
      ∃ r, spec_HaveRead.l0 k a out m.length i h t m = some r ∧ impl_HaveRead.l0 k a out m m.length i = some r ∧ r.1.length ≤ m.length := by
    intro n
    induction n with
    | zero =>
      intro k out i h0 h1 hn hk ho
      obtain ⟨k, rfl⟩ : ∃ m, k = m + 1 := ⟨k - 1, by omega⟩
      have hc : ¬ i < (m.length : Int) := by omega
      exact ⟨(out, true), by simp only [spec_HaveRead.l0, hc, if_false], by simp only [impl_HaveRead.l0, hc, if_false], by simp only; omega⟩
    | succ n ih =>
      intro k out i h0 h1 hn hk ho
      obtain ⟨k, rfl⟩ : ∃ m, k = m + 1 := ⟨k - 1, by omega⟩
      have hc : i < (m.length : Int) := by omega
      have hb : out.length < 17592186044416 := by omega
      simp only [spec_HaveRead.l0, impl_HaveRead.l0, hc, h0, hb, if_true, wsucc h0 (by omega)]
      by_cases c : (rd_T85 m i).f1 ≥ a
      · simp only [c, if_true]
        exact ih k _ (i + 1) (by omega) (by omega) (by omega) (by omega) (by simp; omega)
      · simp only [c, if_false]
        exact ih k _ (i + 1) (by omega) (by omega) (by omega) (by omega) (by omega)
  obtain ⟨r, e1, e2, e3⟩ := key m.length (m.length + 1) [] 0 (by omega) (by omega) (by omega) (by omega) (by simp)
  exact ⟨r, ⟨⟨m.length + 1, fun k hk => at_rounds (fun k => (spec_HaveRead.mono_l k).2 _ _ _ _ _ _ _) hk e1⟩, ⟨m.length + 1, fun k hk => at_rounds (fun k => (impl_HaveRead.mono_l k).2 _ _ _ _ _) hk e2⟩⟩, by omega⟩
theorem FnExactHaveRead : laws_FnExactHaveRead.Pure := law_end fun h' t' m' a b1' b2' b3' => by
  obtain ⟨r, ⟨K3, e3⟩, ⟨K4, e4⟩⟩ := valid_both h' t' m' b1' b2' b3'
  obtain ⟨q, ⟨⟨K5, e5⟩, ⟨K6, e6⟩⟩, hq⟩ := read_both h' t' m' a b3'
  have j1 : ∀ k, spec_HaveRead.j0 (k + 1) a true h' t' m' = some ([], false) := fun k => by simp [spec_HaveRead.j0]
  have j2 : ∀ k, impl_HaveRead.j0 (k + 1) a true h' t' m' = some ([], false) := fun k => by simp [impl_HaveRead.j0]
  have j3 : ∀ k, K5 ≤ k → spec_HaveRead.j0 (k + 1) a false h' t' m' = some q := fun k hk => by simp [spec_HaveRead.j0, e5 k hk]
  have j4 : ∀ k, K6 ≤ k → impl_HaveRead.j0 (k + 1) a false h' t' m' = some q := fun k hk => by simp [impl_HaveRead.j0, e6 k hk]
  cases r with
  | false => exact ⟨([], false), by simp, ⟨K3 + 1, fun k hk => by obtain ⟨k, rfl⟩ : ∃ m, k = m + 1 := ⟨k - 1, by omega⟩; simp [spec_HaveRead.f, e3 (k + 1) (by omega), j1]⟩, ⟨K4 + 1, fun k hk => by obtain ⟨k, rfl⟩ : ∃ m, k = m + 1 := ⟨k - 1, by omega⟩; simp [impl_HaveRead.f, e4 (k + 1) (by omega), j2]⟩⟩
  | true =>
    by_cases c : 0 ≤ a ∧ a ≤ 1000000000
    · exact ⟨q, by omega, ⟨K3 + K5 + 1, fun k hk => by obtain ⟨k, rfl⟩ : ∃ m, k = m + 1 := ⟨k - 1, by omega⟩; simp [spec_HaveRead.f, e3 (k + 1) (by omega), j3 k (by omega), in_eq, in_some, c]⟩, ⟨K4 + K6 + 1, fun k hk => by obtain ⟨k, rfl⟩ : ∃ m, k = m + 1 := ⟨k - 1, by omega⟩; simp [impl_HaveRead.f, e4 (k + 1) (by omega), j4 k (by omega), in_some, c]⟩⟩
    · exact ⟨([], false), by simp, ⟨K3 + 1, fun k hk => by obtain ⟨k, rfl⟩ : ∃ m, k = m + 1 := ⟨k - 1, by omega⟩; simp [spec_HaveRead.f, e3 (k + 1) (by omega), j1, in_eq, in_some, c]⟩, ⟨K4 + 1, fun k hk => by obtain ⟨k, rfl⟩ : ∃ m, k = m + 1 := ⟨k - 1, by omega⟩; simp [impl_HaveRead.f, e4 (k + 1) (by omega), j2, in_some, c]⟩⟩

end Go.Proofs.Ytaafhggihebicaa.Pure
