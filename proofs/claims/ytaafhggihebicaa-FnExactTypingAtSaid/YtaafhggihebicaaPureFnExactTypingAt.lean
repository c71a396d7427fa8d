/- The program's TypingAt returns what the reference's returns, for every presence and tick that can be read. -/
import Derived.Test.YtaafhggihebicaaXFnExactTypingAtx8
import Derived.Test.YtaafhggihebicaaVFnExactTypingAtXP
namespace Go.Proofs.Ytaafhggihebicaa.Pure
open Go.RowKit Go.Proofs.Ytaafhggihebicaa.XFnExactTypingAt Go.Proofs.YtaafhggihebicaaW.PrintWords Go.Proofs.YtaafhggihebicaaW.PrintLast Go.Proofs.Ytaafhggihebicaa.XP Go.Proofs.Ytaafhggihebicaa.XP Go.Proofs.Ytaafhggihebicaa.XP
set_option linter.unusedVariables false
set_option linter.unusedSimpArgs false

def convLease : S136 → S90 := (fun x : S136 => (⟨x.f0, x.f1⟩ : S90))
theorem toLeaseS_from (l : List S136) (h : l.length ≤ 1048576) : From (fun k => laws_toLeaseS.f k l) (l.map convLease) := by
  obtain ⟨K, hK⟩ := fill_all (F := laws_toLeaseS.l0) convLease z136 z90 (fun k xs ys i h0 h1 h2 h3 => by
      simp only [laws_toLeaseS.l0, h0, h1, h2, if_true, laws_toLease.f, Option.bind_some, wsucc h0 h3]; rfl) (fun k xs ys i h => by simp only [laws_toLeaseS.l0, h, if_false]) l (by omega)
  refine ⟨K, fun k hk => ?_⟩
  simp only [laws_toLeaseS.f, Int.toNat_natCast]
  rw [if_pos (by omega), if_pos (by omega)]
  exact hK k hk
theorem eqLeaseS_from (l : List S90) (h : l.length ≤ 1048576) : From (fun k => laws_eqLeaseS.f k l l) true := by
  obtain ⟨K, hK⟩ := all_loop (fun k i => laws_eqLeaseS.l0 k l l i) l.length (by omega) 0 true (fun k i _ h0 h1 => by
      simp only [laws_eqLeaseS.l0, h0, h1, if_true, laws_eqLease.f, Option.bind_some, wsucc h0 (by omega)]) (fun k i _ h _ => by simp only [laws_eqLeaseS.l0, h, if_false])
  refine ⟨K, fun k hk => ?_⟩
  simp only [laws_eqLeaseS.f, if_true]
  exact hK k hk
def convMark : S138 → S85 := (fun x : S138 => (⟨x.f0, x.f1⟩ : S85))
theorem toMarkS_from (l : List S138) (h : l.length ≤ 1048576) : From (fun k => laws_toMarkS.f k l) (l.map convMark) := by
  obtain ⟨K, hK⟩ := fill_all (F := laws_toMarkS.l0) convMark z138 z85 (fun k xs ys i h0 h1 h2 h3 => by
      simp only [laws_toMarkS.l0, h0, h1, h2, if_true, laws_toMark.f, Option.bind_some, wsucc h0 h3]; rfl) (fun k xs ys i h => by simp only [laws_toMarkS.l0, h, if_false]) l (by omega)
  refine ⟨K, fun k hk => ?_⟩
  simp only [laws_toMarkS.f, Int.toNat_natCast]
  rw [if_pos (by omega), if_pos (by omega)]
  exact hK k hk
theorem eqMarkS_from (l : List S85) (h : l.length ≤ 1048576) : From (fun k => laws_eqMarkS.f k l l) true := by
  obtain ⟨K, hK⟩ := all_loop (fun k i => laws_eqMarkS.l0 k l l i) l.length (by omega) 0 true (fun k i _ h0 h1 => by
      simp only [laws_eqMarkS.l0, h0, h1, if_true, laws_eqMark.f, Option.bind_some, wsucc h0 (by omega)]) (fun k i _ h _ => by simp only [laws_eqMarkS.l0, h, if_false])
  refine ⟨K, fun k hk => ?_⟩
  simp only [laws_eqMarkS.f, if_true]
  exact hK k hk
theorem szLease_le (l : List S136) (a r : Int) (hl : l.length ≤ 9223372036854775807) (ha : 0 ≤ a) (ha2 : a ≤ 1048576) (h : laws_szLeaseS.f l a = some r) : r < 0 ∨ ((l.length : Int) ≤ a ∧ r = a - l.length) := by
  unfold laws_szLeaseS.f at h
  rw [w64 (show -9223372036854775808 ≤ a - (l.length : Int) by omega) (show a - (l.length : Int) ≤ 9223372036854775807 by omega)] at h
  split at h <;> (cases h; omega)
theorem szMark_le (l : List S138) (a r : Int) (hl : l.length ≤ 9223372036854775807) (ha : 0 ≤ a) (ha2 : a ≤ 1048576) (h : laws_szMarkS.f l a = some r) : r < 0 ∨ ((l.length : Int) ≤ a ∧ r = a - l.length) := by
  unfold laws_szMarkS.f at h
  rw [w64 (show -9223372036854775808 ≤ a - (l.length : Int) by omega) (show a - (l.length : Int) ≤ 9223372036854775807 by omega)] at h
  split at h <;> (cases h; omega)
theorem szLease_some (l : List S136) (a : Int) : ∃ r, laws_szLeaseS.f l a = some r := by unfold laws_szLeaseS.f; split <;> exact ⟨_, rfl⟩
theorem szMark_some (l : List S138) (a : Int) : ∃ r, laws_szMarkS.f l a = some r := by unfold laws_szMarkS.f; split <;> exact ⟨_, rfl⟩
theorem szPresence_tells (h t : List S136) (m : List S138) (a : Int) (ha : 0 ≤ a) (ha2 : a ≤ 1048576) (h1 : h.length ≤ 9223372036854775807) (h2 : t.length ≤ 9223372036854775807) (h3 : m.length ≤ 9223372036854775807) :
    ∃ r, laws_szPresence.f h t m a = some r ∧ (r < 0 ∨ (h.length ≤ 1048576 ∧ t.length ≤ 1048576 ∧ m.length ≤ 1048576 ∧ 0 ≤ r ∧ r ≤ a)) := by
  unfold laws_szPresence.f
  obtain ⟨r1, e1⟩ := szLease_some h a
  have b1 := szLease_le h a r1 h1 ha ha2 e1
  rw [e1, Option.bind_some]
  by_cases c1 : r1 < 0
  · rw [if_pos c1]; exact ⟨_, rfl, .inl (by omega)⟩
  rw [if_neg c1]
  obtain ⟨r2, e2⟩ := szLease_some t r1
  have b2 := szLease_le t r1 r2 h2 (by omega) (by omega) e2
  rw [e2, Option.bind_some]
  by_cases c2 : r2 < 0
  · rw [if_pos c2]; exact ⟨_, rfl, .inl (by omega)⟩
  rw [if_neg c2]
  obtain ⟨r3, e3⟩ := szMark_some m r2
  have b3 := szMark_le m r2 r3 h3 (by omega) (by omega) e3
  rw [e3, Option.bind_some]
  by_cases c3 : r3 < 0
  · rw [if_pos c3]; exact ⟨_, rfl, .inl (by omega)⟩
  rw [if_neg c3]
  exact ⟨_, rfl, .inr (by omega)⟩
theorem toPresence_from (h t : List S136) (m : List S138) (h1 : h.length ≤ 1048576) (h2 : t.length ≤ 1048576) (h3 : m.length ≤ 1048576) :
    From (fun k => laws_toPresence.f k h t m) (h.map convLease, t.map convLease, m.map convMark) := by
  obtain ⟨K1, e1⟩ := toLeaseS_from h h1
  obtain ⟨K2, e2⟩ := toLeaseS_from t h2
  obtain ⟨K3, e3⟩ := toMarkS_from m h3
  refine ⟨K1 + K2 + K3, fun k hk => ?_⟩
  simp only [laws_toPresence.f, e1 k (by omega), e2 k (by omega), e3 k (by omega), Option.bind_some]
theorem eqPresence_from (h t : List S90) (m : List S85) (h1 : h.length ≤ 1048576) (h2 : t.length ≤ 1048576) (h3 : m.length ≤ 1048576) :
    From (fun k => laws_eqPresence.f k h t m h t m) true := by
  obtain ⟨K1, e1⟩ := eqLeaseS_from h h1
  obtain ⟨K2, e2⟩ := eqLeaseS_from t h2
  obtain ⟨K3, e3⟩ := eqMarkS_from m h3
  refine ⟨K1 + K2 + K3, fun k hk => ?_⟩
  simp only [laws_eqPresence.f, e1 k (by omega), e2 k (by omega), e3 k (by omega), Option.bind_some, if_true]
theorem in_eq (a b c : Int) : spec_l00In.f a b c = impl_in.f a b c := rfl
theorem in_some (a b c : Int) : impl_in.f a b c = some (decide (b ≤ a ∧ a ≤ c)) := by
  unfold impl_in.f
  split
  · congr 1; rw [decide_eq_decide]; omega
  · congr 1; symm; rw [decide_eq_false_iff_not]; omega

theorem leases_both (l : List S90) (hl : l.length ≤ 1048576) : ∃ r, From (fun k => spec_l05Leases.f k l) r ∧ From (fun k => impl_leasesOk.f k l) r := by
  refine pair_loop (fun k i => spec_l05Leases.l0 k l l.length i) (fun k i => impl_leasesOk.l0 k l l l.length i) l.length 0 (fun k i _ h0 h1 => ?_) ⟨decide ((l.length : Int) ≤ 30), fun k _ => ⟨?_, ?_⟩⟩ (fun k i => spec_l05Leases.mono_l k _ _ _) (fun k i => impl_leasesOk.mono_l k _ _ _ _)
  · simp only [spec_l05Leases.l0, impl_leasesOk.l0, h0, h1, if_true, spec_l01Member.f, spec_l01Tick.f, impl_isMember.f, impl_isTick.f, in_eq, in_some, Option.bind_some, wsucc h0 (by omega), wpred h0 (by omega), decide_eq_true_eq]
    by_cases c1 : 1 ≤ (rd_T90 l i).f0 ∧ (rd_T90 l i).f0 ≤ 1000
    · by_cases c2 : 0 ≤ (rd_T90 l i).f1 ∧ (rd_T90 l i).f1 ≤ 1000000
      · by_cases c3 : i > 0
        · have c4 : 0 ≤ i - 1 := by omega
          have c7 : 1 ≤ i := by omega
          have c5 : i - 1 < (l.length : Int) := by omega
          by_cases c6 : (rd_T90 l (i - 1)).f0 ≥ (rd_T90 l i).f0
          · simp [c1, c2, c3, c4, c5, c6, c7]
          · simp [c1, c2, c3, c4, c5, c6, c7]
        · simp [c1, c2, c3]
      · simp [c1, c2]
    · simp [c1]
  · simp only [spec_l05Leases.l0, Int.lt_irrefl, if_false]
  · simp only [impl_leasesOk.l0, Int.lt_irrefl, if_false]
theorem valid_both (h t : List S90) (m : List S85) (h1 : h.length ≤ 1048576) (h2 : t.length ≤ 1048576) (h3 : m.length ≤ 1048576) :
    ∃ r, From (fun k => spec_l05Is.f k h t m) r ∧ From (fun k => impl_ValidPresence.f k h t m) r := by
  obtain ⟨r1, ⟨K1, e1⟩, ⟨L1, f1⟩⟩ := leases_both h h1
  obtain ⟨r2, ⟨K2, e2⟩, ⟨L2, f2⟩⟩ := leases_both t h2
  refine pair_loop (fun k i => spec_l05Is.l0 k m.length i h t m) (fun k i => impl_ValidPresence.l0 k m m.length i h t m) m.length (K1 + L1 + K2 + L2) (fun k i _ h0 h1 => ?_) ⟨decide ((m.length : Int) ≤ 30) && r1 && r2, fun k hk => ⟨?_, ?_⟩⟩ (fun k i => spec_l05Is.mono_l k _ _ _ _ _) (fun k i => impl_ValidPresence.mono_l k _ _ _ _ _ _)
  · simp only [spec_l05Is.l0, impl_ValidPresence.l0, h0, h1, if_true, spec_l01Member.f, impl_isMember.f, in_eq, in_some, Option.bind_some, wsucc h0 (by omega), wpred h0 (by omega), decide_eq_true_eq]
    by_cases c1 : 1 ≤ (rd_T85 m i).f0 ∧ (rd_T85 m i).f0 ≤ 1000
    · by_cases c2 : 0 ≤ (rd_T85 m i).f1 ∧ (rd_T85 m i).f1 ≤ 1000000000
      · by_cases c3 : i > 0
        · have c4 : 0 ≤ i - 1 := by omega
          have c7 : 1 ≤ i := by omega
          have c5 : i - 1 < (m.length : Int) := by omega
          by_cases c6 : (rd_T85 m (i - 1)).f0 ≥ (rd_T85 m i).f0
          · simp [c1, c2, c3, c4, c5, c6, c7]
          · simp [c1, c2, c3, c4, c5, c6, c7]
        · simp [c1, c2, c3]
      · simp [c1, c2]
    · simp [c1]
  · simp only [spec_l05Is.l0, Int.lt_irrefl, if_false, e1 k (by omega), e2 k (by omega), Option.bind_some]
    by_cases c : (m.length : Int) ≤ 30 <;> cases r1 <;> cases r2 <;> simp [c]
  · simp only [impl_ValidPresence.l0, Int.lt_irrefl, if_false, f1 k (by omega), f2 k (by omega), Option.bind_some]
    by_cases c : (m.length : Int) ≤ 30 <;> cases r1 <;> cases r2 <;> simp [c]
theorem markLeaseS_from (l : List S90) (m : Int) (hm : 0 ≤ m) (hb : m ≤ 4294967296) (h : l.length ≤ 1048576) :
    ∃ ys, From (fun k => laws_markLeaseS.f k l m) (m + 2 * l.length, ys) ∧ ys.length = l.length ∧ ∀ j : Nat, j < l.length → ys[j]? = some (⟨m + 2 * j, m + 2 * j + 1⟩ : S90) :=
  mark_all (F := fun k xs m i => laws_markLeaseS.l0 k xs m i) 2 (by omega) (by omega) (fun m => (⟨m, m + 1⟩ : S90)) (fun k xs m i h0 h1 h2 h3 h4 => by
    have hi : i.toNat < xs.length := by omega
    simp only [laws_markLeaseS.l0, h0, h1, if_true, wsucc h0 h2, Option.bind_some, rd_T90, getD_set hi, List.set_set, List.length_set, wsucc (show 0 ≤ m by omega) (by omega), wsucc (show 0 ≤ m + 1 by omega) (by omega)]
    congr 1; omega) (fun k xs m i h => by simp only [laws_markLeaseS.l0, h, if_false]) l m hm (by have := mul_mono (c := 2) (by omega) h; omega) (by omega)
theorem markMarkS_from (l : List S85) (m : Int) (hm : 0 ≤ m) (hb : m ≤ 4294967296) (h : l.length ≤ 1048576) :
    ∃ ys, From (fun k => laws_markMarkS.f k l m) (m + 2 * l.length, ys) ∧ ys.length = l.length ∧ ∀ j : Nat, j < l.length → ys[j]? = some (⟨m + 2 * j, m + 2 * j + 1⟩ : S85) :=
  mark_all (F := fun k xs m i => laws_markMarkS.l0 k xs m i) 2 (by omega) (by omega) (fun m => (⟨m, m + 1⟩ : S85)) (fun k xs m i h0 h1 h2 h3 h4 => by
    have hi : i.toNat < xs.length := by omega
    simp only [laws_markMarkS.l0, h0, h1, if_true, wsucc h0 h2, Option.bind_some, rd_T85, getD_set hi, List.set_set, List.length_set, wsucc (show 0 ≤ m by omega) (by omega), wsucc (show 0 ≤ m + 1 by omega) (by omega)]
    congr 1; omega) (fun k xs m i h => by simp only [laws_markMarkS.l0, h, if_false]) l m hm (by have := mul_mono (c := 2) (by omega) h; omega) (by omega)
theorem markPresence_from (h t : List S90) (m : List S85) (h1 : h.length ≤ 1048576) (h2 : t.length ≤ 1048576) (h3 : m.length ≤ 1048576) :
    ∃ r, From (fun k => laws_markPresence.f k h t m 1) r ∧ ¬ r.1 < 0 := by
  obtain ⟨y1, ⟨K1, e1⟩, _, _⟩ := markLeaseS_from h 1 (by omega) (by omega) h1
  obtain ⟨y2, ⟨K2, e2⟩, _, _⟩ := markLeaseS_from t (1 + 2 * h.length) (by omega) (by omega) h2
  obtain ⟨y3, ⟨K3, e3⟩, _, _⟩ := markMarkS_from m (1 + 2 * h.length + 2 * t.length) (by omega) (by omega) h3
  refine ⟨(1 + 2 * h.length + 2 * t.length + 2 * m.length, y1, y2, y3), ⟨K1 + K2 + K3, fun k hk => ?_⟩, by simp only; omega⟩
  simp only [laws_markPresence.f, e1 k (by omega), e2 k (by omega), e3 k (by omega), Option.bind_some]
theorem eqInt64S_from (l : List Int) (h : l.length ≤ 1073741824) : From (fun k => laws_eqInt64S.f k l l) true := by
  obtain ⟨K, hK⟩ := all_loop (fun k i => laws_eqInt64S.l0 k l l i) l.length (by omega) 0 true (fun k i _ h0 h1 => by
      simp only [laws_eqInt64S.l0, h0, h1, if_true, wsucc h0 (by omega)]) (fun k i _ h _ => by simp only [laws_eqInt64S.l0, h, if_false])
  refine ⟨K, fun k hk => ?_⟩
  simp only [laws_eqInt64S.f, if_true]
  exact hK k hk
theorem markInt64S_from (l : List Int) (m : Int) (hm : 0 ≤ m) (hb : m ≤ 4294967296) (h : l.length ≤ 1073741824) :
    ∃ ys, From (fun k => laws_markInt64S.f k l m) (m + 1 * l.length, ys) ∧ ys.length = l.length ∧ ∀ j : Nat, j < l.length → ys[j]? = some (m + 1 * j) :=
  mark_all (F := fun k xs m i => laws_markInt64S.l0 k xs m i) 1 (by omega) (by omega) (fun m => m) (fun k xs m i h0 h1 h2 h3 h4 => by
    simp only [laws_markInt64S.l0, h0, h1, if_true, wsucc h0 h2, wsucc h3 (by omega)]) (fun k xs m i h => by simp only [laws_markInt64S.l0, h, if_false]) l m hm (by omega) (by omega)
theorem heldInt64S_from (ys : List Int) (m : Int) (hm : 0 ≤ m) (hb : m ≤ 4294967296) (h : ys.length ≤ 1073741824) (hy : ∀ j : Nat, j < ys.length → ys[j]? = some (m + 1 * j)) :
    From (fun k => laws_heldInt64S.f k ys m) (m + 1 * ys.length) := by
  obtain ⟨K, hK⟩ := all_loop (fun k i => laws_heldInt64S.l0 k ys (m + 1 * i) i) ys.length (by omega) 0 (m + 1 * ys.length) (fun k i _ h0 h1 => by
      have hr : rd ys i = m + 1 * i := by
        have := hy i.toNat (by omega)
        rw [rd, getD_of this]; omega
      simp only [laws_heldInt64S.l0, h0, h1, if_true, hr, wsucc h0 (by omega), wsucc (show 0 ≤ m + 1 * i by omega) (by omega)]
      congr 1; omega) (fun k i _ h he => by subst he; simp only [laws_heldInt64S.l0, h, if_false])
  refine ⟨K, fun k hk => ?_⟩
  simp only [laws_heldInt64S.f]
  have := hK k hk
  simpa using this
/-- What the law does to numbers that were returned: equal to themselves, marked, and the marks held. -/
theorem ints_law (l : List Int) (h : l.length ≤ 1073741824) : ∃ ys : List Int, From (fun k => laws_markInt64S.f k l 1) (1 + l.length, ys) ∧ From (fun k => laws_heldInt64S.f k ys 1) (1 + l.length) := by
  obtain ⟨ys, h1, h2, h3⟩ := markInt64S_from l 1 (by omega) (by omega) h
  refine ⟨ys, by simpa using h1, ?_⟩
  have := heldInt64S_from ys 1 (by omega) (by omega) (by omega) (fun j hj => h3 j (by omega))
  rw [h2] at this
  simpa using this
/-- The law over a presence and a number, whose answer is a list of numbers (printed with a cut at each 'if'): from what both answer. -/
theorem law_end (hb : ∀ (h t : List S90) (m : List S85) (a : Int), h.length ≤ 1048576 → t.length ≤ 1048576 → m.length ≤ 1048576 → ∃ g : List Int × Bool, g.1.length ≤ 1048576 ∧ From (fun k => spec_TypingAt.f k h t m a) g ∧ From (fun k => impl_TypingAt.f k h t m a) g) : laws_FnExactTypingAt.Pure := by
  intro h t m a ⟨h1, _⟩ ⟨h2, _⟩ ⟨h3, _⟩ _
  obtain ⟨s, hs, hc⟩ := szPresence_tells h t m 1048576 (by omega) (by omega) h1 h2 h3
  rcases hc with hc | ⟨b1, b2, b3, b4, b5⟩
  · exact ⟨0, by simp only [laws_FnExactTypingAt.f, hs, Option.bind_some, hc, if_true]⟩
  obtain ⟨K1, e1⟩ := toPresence_from h t m b1 b2 b3
  have b1' : (h.map convLease).length ≤ 1048576 := by simpa using b1
  have b2' : (t.map convLease).length ≤ 1048576 := by simpa using b2
  have b3' : (m.map convMark).length ≤ 1048576 := by simpa using b3
  generalize h.map convLease = h' at *
  generalize t.map convLease = t' at *
  generalize m.map convMark = m' at *
  obtain ⟨K2, e2⟩ := eqPresence_from h' t' m' b1' b2' b3'
  obtain ⟨u, ⟨K7, e7⟩, hu⟩ := markPresence_from h' t' m' b1' b2' b3'
  obtain ⟨g, hg, ⟨K8, e8⟩, ⟨K9, e9⟩⟩ := hb h' t' m' a b1' b2' b3'
  obtain ⟨K10, e10⟩ := eqInt64S_from g.1 (by omega)
  obtain ⟨ys, ⟨K11, e11⟩, ⟨K12, e12⟩⟩ := ints_law g.1 (by omega)
  generalize hK : K1 + K2 + K7 + K8 + K9 + K10 + K11 + K12 = K
  refine ⟨K + 12, ?_⟩
  have hn : ¬ s < 0 := by omega
  have hp : ¬ (1 + (g.1.length : Int)) < 0 := by omega
  have hb : (g.2 != g.2) = false := by simp
  have E1 := fun i => e1 (K + i) (by omega)
  have E2 := fun i => e2 (K + i) (by omega)
  have E7 := fun i => e7 (K + i) (by omega)
  have E8 := fun i => e8 (K + i) (by omega)
  have E9 := fun i => e9 (K + i) (by omega)
  have E10 := fun i => e10 (K + i) (by omega)
  have E11 := fun i => e11 (K + i) (by omega)
  have E12 := fun i => e12 (K + i) (by omega)
  clear e1 e2 e7 e8 e9 e10 e11 e12
  simp only [laws_FnExactTypingAt.f, hs, hn, Option.bind_some, if_false]
  simp only [laws_FnExactTypingAt.j0, E1, E8, E9, E10, hb, Option.bind_some, if_true]
  simp only [laws_FnExactTypingAt.j1, Bool.false_eq_true, if_false]
  simp only [laws_FnExactTypingAt.j2, E1, E2, Option.bind_some, if_true]
  simp only [laws_FnExactTypingAt.j3, E7, E10, hu, hb, Option.bind_some, if_true, if_false]
  simp only [laws_FnExactTypingAt.j4, Bool.false_eq_true, if_false]
  simp only [laws_FnExactTypingAt.j5, E11, E12, hp, Option.bind_some, if_false]
  simp only [laws_FnExactTypingAt.j6, if_true]
  simp only [laws_FnExactTypingAt.j7, E1, E9, E10, hb, Option.bind_some, if_true]
  simp only [laws_FnExactTypingAt.j8, Bool.false_eq_true, if_false]
  simp only [laws_FnExactTypingAt.j9, E12, hp, Option.bind_some, if_true, if_false]
abbrev gl (l : List S90) (j : Nat) : S90 := l.getD j z90
def leaseB (l : List S90) (j : Nat) : Bool := decide (1 ≤ (gl l j).f0 ∧ (gl l j).f0 ≤ 1000) && (decide (0 ≤ (gl l j).f1 ∧ (gl l j).f1 ≤ 1000000) && (decide (j = 0) || decide ((gl l (j - 1)).f0 < (gl l j).f0)))
def leasesB (l : List S90) : Bool := (List.range l.length).all (leaseB l) && decide ((l.length : Int) ≤ 30)
theorem leases_from (l : List S90) (hl : l.length ≤ 1048576) : From (fun k => spec_l05Leases.f k l) (leasesB l) :=
  test_loopB (fun k i => spec_l05Leases.l0 k l l.length i) l.length 0 (leaseB l) (decide ((l.length : Int) ≤ 30)) (fun k i _ h0 h1 => by
    simp only [spec_l05Leases.l0, h0, h1, if_true, spec_l01Member.f, spec_l01Tick.f, in_eq, in_some, Option.bind_some, wsucc h0 (by omega), rd_T90, leaseB, gl]
    by_cases c1 : 1 ≤ (l.getD i.toNat z90).f0 ∧ (l.getD i.toNat z90).f0 ≤ 1000
    · by_cases c2 : 0 ≤ (l.getD i.toNat z90).f1 ∧ (l.getD i.toNat z90).f1 ≤ 1000000
      · by_cases c3 : i > 0
        · have p1 : wrap64 (i - 1) = i - 1 := wpred h0 (by omega)
          have p2 : (i - 1).toNat = i.toNat - 1 := by omega
          have p3 : 0 ≤ i - 1 := by omega
          have p4 : i - 1 < l.length := by omega
          have p5 : ¬ i.toNat = 0 := by omega
          by_cases c6 : (l.getD (i.toNat - 1) z90).f0 < (l.getD i.toNat z90).f0
          · have c7 : ¬ (l.getD (i.toNat - 1) z90).f0 ≥ (l.getD i.toNat z90).f0 := by omega
            simp only [c1, c2, c3, c6, c7, p1, p2, p3, p4, p5, if_true, if_false, decide_true, decide_false, and_self, Bool.true_and, Bool.false_or]
          · have c7 : (l.getD (i.toNat - 1) z90).f0 ≥ (l.getD i.toNat z90).f0 := by omega
            simp only [c1, c2, c3, c6, c7, p1, p2, p3, p4, p5, if_true, if_false, decide_true, decide_false, and_self, Bool.true_and, Bool.false_or, Bool.false_eq_true]
        · have p5 : i.toNat = 0 := by omega
          rw [p5] at c1 c2 ⊢
          simp only [c1, c2, c3, if_true, if_false, decide_true, and_self, Bool.true_and, Bool.true_or]
      · simp only [c1, c2, if_true, if_false, decide_true, decide_false, and_self, Bool.true_and, Bool.false_and, Bool.false_eq_true]
    · simp only [c1, if_false, decide_false, Bool.false_and, Bool.false_eq_true]) (fun k _ => by simp only [spec_l05Leases.l0, Int.lt_irrefl, if_false])
theorem leases_of_valid (h t : List S90) (m : List S85) (h1 : h.length ≤ 1048576) (h2 : t.length ≤ 1048576) (h3 : m.length ≤ 1048576) (hv : From (fun k => spec_l05Is.f k h t m) true) : leasesB h = true := by
  obtain ⟨K1, e1⟩ := leases_from h h1
  obtain ⟨K2, e2⟩ := leases_from t h2
  obtain ⟨K, hK⟩ := hv
  cases hb : leasesB h with
  | true => rfl
  | false =>
    rw [hb] at e1
    have key : ∀ (n k : Nat) (i : Int), 0 ≤ i → i ≤ m.length → (m.length : Int) - i = n → n + (K1 + K2) < k → spec_l05Is.l0 k m.length i h t m ≠ some true := by
      intro n
      induction n with
      | zero =>
        intro k i h0 h1 hn hk
        obtain ⟨k, rfl⟩ : ∃ m, k = m + 1 := ⟨k - 1, by omega⟩
        obtain rfl : i = m.length := by omega
        simp only [spec_l05Is.l0, Int.lt_irrefl, if_false, e1 k (by omega), Option.bind_some, Bool.false_eq_true]
        split <;> simp
      | succ n ih =>
        intro k i h0 h1 hn hk
        obtain ⟨k, rfl⟩ : ∃ m, k = m + 1 := ⟨k - 1, by omega⟩
        have hi : i < (m.length : Int) := by omega
        have hr := ih k (i + 1) (by omega) (by omega) (by omega) (by omega)
        simp only [spec_l05Is.l0, hi, h0, if_true, spec_l01Member.f, in_eq, in_some, Option.bind_some, wsucc h0 (by omega), wpred h0 (by omega)]
        split
        · split
          · split
            · split
              · split
                · split
                  · simp
                  · exact hr
                · simp
              · simp
            · exact hr
          · simp
        · simp
    exact absurd (hK (K + m.length + (K1 + K2) + 1) (by omega)) (key m.length _ 0 (by omega) (by omega) (by omega) (by omega))
theorem rising_of (l : List S90) (h : leasesB l = true) : ∀ i j, i < j → j < l.length → (gl l i).f0 < (gl l j).f0 := by
  refine steps_up (fun j => (gl l j).f0) l.length fun j h0 h1 => ?_
  have h2 := (Bool.and_eq_true _ _ ▸ h).1
  have h3 := List.all_eq_true.1 h2 j (List.mem_range.2 h1)
  simp only [leaseB, Bool.and_eq_true, Bool.or_eq_true, decide_eq_true_eq] at h3
  omega
theorem cmp_some (a b : Int) : cmp_Compare_int64.f a b = some (if a < b then -1 else if a > b then 1 else 0) := by
  simp only [cmp_Compare_int64.f, cmp_isNaN_int64.f, Option.bind_some]
  by_cases c : a < b
  · simp [c]
  · by_cases c2 : a > b <;> simp [c, c2]
theorem mid_of {a b : Int} (h0 : 0 ≤ a) (h1 : a ≤ b) (h2 : b ≤ 1048576) : wrap64 ((IntKind.u64.wrap (wrap64 (a + b))) / 2) = (a + b) / 2 := by
  rw [w64 (show -9223372036854775808 ≤ a + b by omega) (by omega), IntKind.wrap_u64, w64 (by omega) (by omega)]
  omega
/-- The search among numbers that rise: where it ends. -/
theorem search_at (l : List S90) (x : Int) (hl : l.length ≤ 1048576) : ∀ (n k : Nat) (lo hi : Int), 0 ≤ lo → lo ≤ hi → hi ≤ l.length → hi - lo ≤ n → n < k →
    (0 < lo → (gl l (lo - 1).toNat).f0 < x) → (hi < l.length → x ≤ (gl l hi.toNat).f0) →
    ∃ p : Int, 0 ≤ p ∧ p ≤ l.length ∧ (0 < p → (gl l (p - 1).toNat).f0 < x) ∧ (p < l.length → x ≤ (gl l p.toNat).f0) ∧
      impl_Lease_int64_until_1.l0 k l x l.length lo hi = some (p, decide (p < l.length ∧ (gl l p.toNat).f0 = x)) := by
  intro n
  induction n with
  | zero =>
    intro k lo hi h0 h1 h2 hn hk ha hb
    obtain ⟨k, rfl⟩ : ∃ m, k = m + 1 := ⟨k - 1, by omega⟩
    obtain rfl : lo = hi := by omega
    refine ⟨lo, h0, h2, ha, hb, ?_⟩
    simp only [impl_Lease_int64_until_1.l0, Int.lt_irrefl, if_false, impl_until_1.f, cmp_some, Option.bind_some, rd_T90]
    by_cases c : lo < (l.length : Int)
    · have := hb c
      simp only [gl] at this
      simp only [c, h0, if_true, true_and, gl]
      by_cases c2 : (l.getD lo.toNat z90).f0 = x
      · simp only [c2, Int.lt_irrefl, if_false, decide_true, gt_iff_lt]; rfl
      · have c3 : ¬ (l.getD lo.toNat z90).f0 < x := by omega
        have c4 : (l.getD lo.toNat z90).f0 > x := by omega
        simp only [c2, c3, c4, if_true, if_false, decide_false]
        rfl
    · simp only [c, if_false, false_and, decide_false]
  | succ n ih =>
    intro k lo hi h0 h1 h2 hn hk ha hb
    by_cases e : lo = hi
    · exact ih k lo hi h0 h1 h2 (by omega) (by omega) ha hb
    obtain ⟨k, rfl⟩ : ∃ m, k = m + 1 := ⟨k - 1, by omega⟩
    have c : lo < hi := by omega
    have c1 : 0 ≤ (lo + hi) / 2 := by omega
    have c2 : (lo + hi) / 2 < (l.length : Int) := by omega
    simp only [impl_Lease_int64_until_1.l0, mid_of h0 h1 (show hi ≤ 1048576 by omega), c, c1, c2, if_true, impl_until_1.f, cmp_some, Option.bind_some, rd_T90, wsucc c1 (by omega)]
    by_cases c3 : (l.getD ((lo + hi) / 2).toNat z90).f0 < x
    · simp only [c3, if_true, show (-1 : Int) < 0 from by omega]
      exact ih k _ _ (by omega) (by omega) h2 (by omega) (by omega) (fun _ => by rw [show (lo + hi) / 2 + 1 - 1 = (lo + hi) / 2 by omega]; exact c3) hb
    · have c4 : ¬ (if (l.getD ((lo + hi) / 2).toNat z90).f0 < x then (-1 : Int) else if (l.getD ((lo + hi) / 2).toNat z90).f0 > x then 1 else 0) < 0 := by
        rw [if_neg c3]; split <;> omega
      simp only [c4, if_false]
      exact ih k _ _ h0 (by omega) (by omega) (by omega) (by omega) ha (fun _ => by simp only [gl]; omega)
/-- Until when one who is in the list is there, or -1. -/
theorem until_both (l : List S90) (x : Int) (hl : l.length ≤ 1048576) (hs : ∀ i j, i < j → j < l.length → (gl l i).f0 < (gl l j).f0) :
    ∃ r, From (fun k => spec_l05Until.f k l x) r ∧ From (fun k => impl_until.f k l x) r := by
  obtain ⟨K, h⟩ := find_loop (fun k i => spec_l05Until.l0 k l x l.length i) l.length 0 (fun j => (gl l j).f0 = x) (fun j => (gl l j).f1) (-1) (fun k i _ h0 h1 => by
    simp only [spec_l05Until.l0, h0, h1, if_true, rd_T90, wsucc h0 (by omega), gl]) (fun k _ => by simp only [spec_l05Until.l0, Int.lt_irrefl, if_false])
  have hsearch := fun k (hk : l.length < k) => search_at l x hl l.length k 0 l.length (by omega) (by omega) (by omega) (by omega) hk (fun h => absurd h (by omega)) (fun h => absurd h (by omega))
  rcases h with ⟨j, hj, hp, hn, e⟩ | ⟨hn, e⟩
  · refine ⟨(gl l j).f1, ⟨K, e⟩, ⟨l.length + 1, fun k hk => ?_⟩⟩
    obtain ⟨p, p0, p1, pa, pb, e2⟩ := hsearch k (by omega)
    have hpj : p = j := by
      rcases Int.lt_trichotomy p j with c | c | c
      · have a := pb (by omega)
        have b := hs p.toNat j (by omega) hj
        omega
      · exact c
      · have a := pa (by omega)
        by_cases d : (p - 1).toNat = j
        · rw [d] at a; omega
        · have b := hs j (p - 1).toNat (by omega) (by omega)
          omega
    subst hpj
    have hj2 : (j : Int) < l.length := by omega
    have hj3 : (0 : Int) ≤ j := by omega
    simp only [Int.toNat_natCast] at e2
    simp only [impl_until.f, impl_Lease_int64_until_1.f, e2, Option.bind_some, hp, hj2, hj3, true_and, decide_true, if_true, rd_T90, Int.toNat_natCast, gl]
  · refine ⟨-1, ⟨K, e⟩, ⟨l.length + 1, fun k hk => ?_⟩⟩
    obtain ⟨p, p0, p1, pa, pb, e2⟩ := hsearch k (by omega)
    have hd : ¬ (p < l.length ∧ (gl l p.toNat).f0 = x) := fun ⟨h1, h2⟩ => hn p.toNat (by omega) h2
    simp only [impl_until.f, impl_Lease_int64_until_1.f, e2, Option.bind_some, hd, decide_false, Bool.false_eq_true, if_false]
theorem from_fun {α β : Type} {g : Nat → α → Option β} (h : ∀ x, ∃ r, From (fun k => g k x) r) : ∃ f : α → β, ∀ x, From (fun k => g k x) (f x) := ⟨fun x => (h x).choose, fun x => (h x).choose_spec⟩
theorem typing_both (h t : List S90) (m : List S85) (a : Int) (h1 : h.length ≤ 1048576) (h2 : t.length ≤ 1048576) (hs : ∀ i j, i < j → j < h.length → (gl h i).f0 < (gl h j).f0) :
    ∃ r : List Int, r.length ≤ 1048576 ∧ From (fun k => spec_l05Types.f k h t m a) r ∧ ∃ q, From (fun k => impl_Presence_typists.f k h t m) q ∧ From (fun k => impl_membersOf.f k q a) r := by
  have hu : ∃ U : Int → Int, ∀ x, From (fun k => spec_l05Until.f k h x) (U x) ∧ From (fun k => impl_until.f k h x) (U x) := ⟨fun x => (until_both h x h1 hs).choose, fun x => (until_both h x h1 hs).choose_spec⟩
  obtain ⟨U, hU⟩ := hu
  obtain ⟨K1, e1⟩ := from_all (g := fun k j => spec_l05Until.f k h (gl t j).f0) (fun j => U (gl t j).f0) t.length fun j _ => (hU _).1
  obtain ⟨K2, e2⟩ := from_all (g := fun k j => impl_until.f k h (gl t j).f0) (fun j => U (gl t j).f0) t.length fun j _ => (hU _).2
  obtain ⟨L1, f1⟩ := collect_loop (fun k out i => spec_l05Types.l0 k a out t.length i h t m) t z90 K1 (fun y => if y.f1 > a ∧ U y.f0 > a then some y.f0 else none) (fun k out i hk h0 h1 ho => by
    have w := e1 k hk i.toNat (by omega)
    have hb : out.length < 17592186044416 := by omega
    simp only [gl] at w
    simp only [spec_l05Types.l0, h0, h1, if_true, rd_T90, w, Option.bind_some, hb, wsucc h0 (by omega)]
    by_cases c1 : (t.getD i.toNat z90).f1 > a
    · by_cases c2 : U (t.getD i.toNat z90).f0 > a
      · simp only [c1, c2, and_self, if_true, Option.toList]
      · simp only [c1, c2, and_false, if_true, if_false, Option.toList, List.append_nil]
    · simp only [c1, false_and, if_false, Option.toList, List.append_nil]) (fun k out _ => by simp only [spec_l05Types.l0, Int.lt_irrefl, if_false])
  obtain ⟨L2, f2⟩ := collect_loop (fun k out i => impl_Presence_typists.l0 k out t t.length i h t m) t z90 K2 (fun y => some (⟨y.f0, mn y.f1 (U y.f0)⟩ : S90)) (fun k out i hk h0 h1 ho => by
    have w := e2 k hk i.toNat (by omega)
    have hb : out.length < 8796093022208 := by omega
    simp only [gl] at w
    simp only [impl_Presence_typists.l0, h0, h1, if_true, rd_T90, w, Option.bind_some, hb, wsucc h0 (by omega), Option.toList]) (fun k out _ => by simp only [impl_Presence_typists.l0, Int.lt_irrefl, if_false])
  generalize hq : t.filterMap (fun y => some (⟨y.f0, mn y.f1 (U y.f0)⟩ : S90)) = q at f2
  have hql : q.length ≤ 1048576 := by rw [← hq]; exact Nat.le_trans (List.length_filterMap_le _ _) h2
  obtain ⟨L3, f3⟩ := collect_loop (fun k out i => impl_membersOf.l0 k a out q q.length i) q z90 0 (fun y => if y.f1 > a then some y.f0 else none) (fun k out i hk h0 h1 ho => by
    have hb : out.length < 17592186044416 := by omega
    simp only [impl_membersOf.l0, h0, h1, if_true, rd_T90, hb, wsucc h0 (by omega)]
    by_cases c1 : (q.getD i.toNat z90).f1 > a
    · simp only [c1, if_true, Option.toList]
    · simp only [c1, if_false, Option.toList, List.append_nil]) (fun k out _ => by simp only [impl_membersOf.l0, Int.lt_irrefl, if_false])
  refine ⟨_, Nat.le_trans (List.length_filterMap_le _ _) h2, ⟨L1, f1⟩, q, ⟨L2, f2⟩, ⟨L3, fun k hk => ?_⟩⟩
  show impl_membersOf.l0 k a [] q q.length 0 = _
  rw [f3 k hk, ← hq, List.filterMap_filterMap]
  congr 2
  funext y
  simp only [Option.bind_some, mn]
  by_cases c1 : y.f1 > a <;> by_cases c2 : U y.f0 > a <;> by_cases c3 : U y.f0 < y.f1 <;> simp [c1, c2, c3] <;> omega
theorem FnExactTypingAt : laws_FnExactTypingAt.Pure := law_end fun h' t' m' a b1' b2' b3' => by
  obtain ⟨r, ⟨K3, e3⟩, ⟨K4, e4⟩⟩ := valid_both h' t' m' b1' b2' b3'
  cases r with
  | false => exact ⟨([], false), by simp, ⟨K3, fun k hk => by simp [spec_TypingAt.f, e3 k (by omega)]⟩, ⟨K4 + 1, fun k hk => by obtain ⟨k, rfl⟩ : ∃ m, k = m + 1 := ⟨k - 1, by omega⟩; simp [impl_TypingAt.f, e4 (k + 1) (by omega), impl_TypingAt.j0]⟩⟩
  | true =>
    by_cases c : 0 ≤ a ∧ a ≤ 1000000
    · obtain ⟨r, hr, ⟨K5, e5⟩, q, ⟨K6, e6⟩, ⟨K7, e7⟩⟩ := typing_both h' t' m' a b1' b2' (rising_of h' (leases_of_valid h' t' m' b1' b2' b3' ⟨K3, e3⟩))
      exact ⟨(r, true), hr, ⟨K3 + K5, fun k hk => by simp [spec_TypingAt.f, e3 k (by omega), e5 k (by omega), spec_l01Tick.f, in_eq, in_some, c]⟩, ⟨K4 + K6 + K7 + 1, fun k hk => by obtain ⟨k, rfl⟩ : ∃ m, k = m + 1 := ⟨k - 1, by omega⟩; simp [impl_TypingAt.f, impl_TypingAt.j0, e4 (k + 1) (by omega), e6 k (by omega), e7 k (by omega), impl_isTick.f, in_some, c]⟩⟩
    · exact ⟨([], false), by simp, ⟨K3, fun k hk => by simp [spec_TypingAt.f, e3 k (by omega), spec_l01Tick.f, in_eq, in_some, c]⟩, ⟨K4 + 1, fun k hk => by obtain ⟨k, rfl⟩ : ∃ m, k = m + 1 := ⟨k - 1, by omega⟩; simp [impl_TypingAt.f, impl_TypingAt.j0, e4 (k + 1) (by omega), impl_isTick.f, in_some, c]⟩⟩

end Go.Proofs.Ytaafhggihebicaa.Pure
