/- The program's NextChange returns what the reference's returns, for every presence and tick that can be read. -/
import Derived.Test.YtaafhggihebicaaXFnExactNextChangex10
import Derived.Test.YtaafhggihebicaaVFnExactNextChangeXP
namespace Go.Proofs.Ytaafhggihebicaa.Pure
open Go.RowKit Go.Proofs.Ytaafhggihebicaa.XFnExactNextChange Go.Proofs.YtaafhggihebicaaW.PrintWords Go.Proofs.YtaafhggihebicaaW.PrintLast Go.Proofs.Ytaafhggihebicaa.XP Go.Proofs.Ytaafhggihebicaa.XP
set_option linter.unusedVariables false
set_option linter.unusedSimpArgs false

def convLease : S136 → S90 := (fun x : S136 => (⟨x.f0, x.f1⟩ : S90))
theorem toLeaseS_from (l : List S136) (h : l.length ≤ 1048576) : From (fun k => laws_toLeaseS.f k l) (l.map convLease) := by
  obtain ⟨K, hK⟩ := fill_all (F := laws_toLeaseS.l0) convLease z136 z90 (fun k xs ys i h0 h1 h2 h3 => by
      simp only [laws_toLeaseS.l0, h0, h1, h2, if_true, laws_toLease.f, Option.bind_some, wsucc h0 h3]; rfl) (fun k xs ys i h => by simp only [laws_toLeaseS.l0, h, if_false]) l (by omega)
  refine ⟨K, fun k hk => ?_⟩
  simp only [laws_toLeaseS.f, Int.toNat_natCast]
  rw [if_pos (by omega), if_pos (by omega)]
  exact hK k hk
theorem eqLeaseS_from (l : List S90) (h : l.length ≤ 1048576) : From (fun k => laws_eqLeaseS.f k l l) true := by
  obtain ⟨K, hK⟩ := all_loop (fun k i => laws_eqLeaseS.l0 k l l i) l.length (by omega) 0 true (fun k i _ h0 h1 => by
      simp only [laws_eqLeaseS.l0, h0, h1, if_true, laws_eqLease.f, Option.bind_some, wsucc h0 (by omega)]) (fun k i _ h _ => by simp only [laws_eqLeaseS.l0, h, if_false])
  refine ⟨K, fun k hk => ?_⟩
  simp only [laws_eqLeaseS.f, if_true]
  exact hK k hk
def convMark : S138 → S85 := (fun x : S138 => (⟨x.f0, x.f1⟩ : S85))
theorem toMarkS_from (l : List S138) (h : l.length ≤ 1048576) : From (fun k => laws_toMarkS.f k l) (l.map convMark) := by
  obtain ⟨K, hK⟩ := fill_all (F := laws_toMarkS.l0) convMark z138 z85 (fun k xs ys i h0 h1 h2 h3 => by
      simp only [laws_toMarkS.l0, h0, h1, h2, if_true, laws_toMark.f, Option.bind_some, wsucc h0 h3]; rfl) (fun k xs ys i h => by simp only [laws_toMarkS.l0, h, if_false]) l (by omega)
  refine ⟨K, fun k hk => ?_⟩
  simp only [laws_toMarkS.f, Int.toNat_natCast]
  rw [if_pos (by omega), if_pos (by omega)]
  exact hK k hk
theorem eqMarkS_from (l : List S85) (h : l.length ≤ 1048576) : From (fun k => laws_eqMarkS.f k l l) true := by
  obtain ⟨K, hK⟩ := all_loop (fun k i => laws_eqMarkS.l0 k l l i) l.length (by omega) 0 true (fun k i _ h0 h1 => by
      simp only [laws_eqMarkS.l0, h0, h1, if_true, laws_eqMark.f, Option.bind_some, wsucc h0 (by omega)]) (fun k i _ h _ => by simp only [laws_eqMarkS.l0, h, if_false])
  refine ⟨K, fun k hk => ?_⟩
  simp only [laws_eqMarkS.f, if_true]
  exact hK k hk
theorem szLease_le (l : List S136) (a r : Int) (hl : l.length ≤ 9223372036854775807) (ha : 0 ≤ a) (ha2 : a ≤ 1048576) (h : laws_szLeaseS.f l a = some r) : r < 0 ∨ ((l.length : Int) ≤ a ∧ r = a - l.length) := by
  unfold laws_szLeaseS.f at h
  rw [w64 (show -9223372036854775808 ≤ a - (l.length : Int) by omega) (show a - (l.length : Int) ≤ 9223372036854775807 by omega)] at h
  split at h <;> (cases h; omega)
theorem szMark_le (l : List S138) (a r : Int) (hl : l.length ≤ 9223372036854775807) (ha : 0 ≤ a) (ha2 : a ≤ 1048576) (h : laws_szMarkS.f l a = some r) : r < 0 ∨ ((l.length : Int) ≤ a ∧ r = a - l.length) := by
  unfold laws_szMarkS.f at h
  rw [w64 (show -9223372036854775808 ≤ a - (l.length : Int) by omega) (show a - (l.length : Int) ≤ 9223372036854775807 by omega)] at h
  split at h <;> (cases h; omega)
theorem szLease_some (l : List S136) (a : Int) : ∃ r, laws_szLeaseS.f l a = some r := by unfold laws_szLeaseS.f; split <;> exact ⟨_, rfl⟩
theorem szMark_some (l : List S138) (a : Int) : ∃ r, laws_szMarkS.f l a = some r := by unfold laws_szMarkS.f; split <;> exact ⟨_, rfl⟩
theorem szPresence_tells (h t : List S136) (m : List S138) (a : Int) (ha : 0 ≤ a) (ha2 : a ≤ 1048576) (h1 : h.length ≤ 9223372036854775807) (h2 : t.length ≤ 9223372036854775807) (h3 : m.length ≤ 9223372036854775807) :
    ∃ r, laws_szPresence.f h t m a = some r ∧ (r < 0 ∨ (h.length ≤ 1048576 ∧ t.length ≤ 1048576 ∧ m.length ≤ 1048576 ∧ 0 ≤ r ∧ r ≤ a)) := by
  unfold laws_szPresence.f
  obtain ⟨r1, e1⟩ := szLease_some h a
  have b1 := szLease_le h a r1 h1 ha ha2 e1
  rw [e1, Option.bind_some]
  by_cases c1 : r1 < 0
  · rw [if_pos c1]; exact ⟨_, rfl, .inl (by omega)⟩
  rw [if_neg c1]
  obtain ⟨r2, e2⟩ := szLease_some t r1
  have b2 := szLease_le t r1 r2 h2 (by omega) (by omega) e2
  rw [e2, Option.bind_some]
  by_cases c2 : r2 < 0
  · rw [if_pos c2]; exact ⟨_, rfl, .inl (by omega)⟩
  rw [if_neg c2]
  obtain ⟨r3, e3⟩ := szMark_some m r2
  have b3 := szMark_le m r2 r3 h3 (by omega) (by omega) e3
  rw [e3, Option.bind_some]
  by_cases c3 : r3 < 0
  · rw [if_pos c3]; exact ⟨_, rfl, .inl (by omega)⟩
  rw [if_neg c3]
  exact ⟨_, rfl, .inr (by omega)⟩
theorem toPresence_from (h t : List S136) (m : List S138) (h1 : h.length ≤ 1048576) (h2 : t.length ≤ 1048576) (h3 : m.length ≤ 1048576) :
    From (fun k => laws_toPresence.f k h t m) (h.map convLease, t.map convLease, m.map convMark) := by
  obtain ⟨K1, e1⟩ := toLeaseS_from h h1
  obtain ⟨K2, e2⟩ := toLeaseS_from t h2
  obtain ⟨K3, e3⟩ := toMarkS_from m h3
  refine ⟨K1 + K2 + K3, fun k hk => ?_⟩
  simp only [laws_toPresence.f, e1 k (by omega), e2 k (by omega), e3 k (by omega), Option.bind_some]
theorem eqPresence_from (h t : List S90) (m : List S85) (h1 : h.length ≤ 1048576) (h2 : t.length ≤ 1048576) (h3 : m.length ≤ 1048576) :
    From (fun k => laws_eqPresence.f k h t m h t m) true := by
  obtain ⟨K1, e1⟩ := eqLeaseS_from h h1
  obtain ⟨K2, e2⟩ := eqLeaseS_from t h2
  obtain ⟨K3, e3⟩ := eqMarkS_from m h3
  refine ⟨K1 + K2 + K3, fun k hk => ?_⟩
  simp only [laws_eqPresence.f, e1 k (by omega), e2 k (by omega), e3 k (by omega), Option.bind_some, if_true]
theorem in_eq (a b c : Int) : spec_l00In.f a b c = impl_in.f a b c := rfl
theorem in_some (a b c : Int) : impl_in.f a b c = some (decide (b ≤ a ∧ a ≤ c)) := by
  unfold impl_in.f
  split
  · congr 1; rw [decide_eq_decide]; omega
  · congr 1; symm; rw [decide_eq_false_iff_not]; omega

theorem leases_both (l : List S90) (hl : l.length ≤ 1048576) : ∃ r, From (fun k => spec_l05Leases.f k l) r ∧ From (fun k => impl_leasesOk.f k l) r := by
  refine pair_loop (fun k i => spec_l05Leases.l0 k l l.length i) (fun k i => impl_leasesOk.l0 k l l l.length i) l.length 0 (fun k i _ h0 h1 => ?_) ⟨decide ((l.length : Int) ≤ 30), fun k _ => ⟨?_, ?_⟩⟩ (fun k i => spec_l05Leases.mono_l k _ _ _) (fun k i => impl_leasesOk.mono_l k _ _ _ _)
  · simp only [spec_l05Leases.l0, impl_leasesOk.l0, h0, h1, if_true, spec_l01Member.f, spec_l01Tick.f, impl_isMember.f, impl_isTick.f, in_eq, in_some, Option.bind_some, wsucc h0 (by omega), wpred h0 (by omega), decide_eq_true_eq]
    by_cases c1 : 1 ≤ (rd_T90 l i).f0 ∧ (rd_T90 l i).f0 ≤ 1000
    · by_cases c2 : 0 ≤ (rd_T90 l i).f1 ∧ (rd_T90 l i).f1 ≤ 1000000
      · by_cases c3 : i > 0
        · have c4 : 0 ≤ i - 1 := by omega
          have c7 : 1 ≤ i := by omega
          have c5 : i - 1 < (l.length : Int) := by omega
          by_cases c6 : (rd_T90 l (i - 1)).f0 ≥ (rd_T90 l i).f0
          · simp [c1, c2, c3, c4, c5, c6, c7]
          · simp [c1, c2, c3, c4, c5, c6, c7]
        · simp [c1, c2, c3]
      · simp [c1, c2]
    · simp [c1]
  · simp only [spec_l05Leases.l0, Int.lt_irrefl, if_false]
  · simp only [impl_leasesOk.l0, Int.lt_irrefl, if_false]
theorem valid_both (h t : List S90) (m : List S85) (h1 : h.length ≤ 1048576) (h2 : t.length ≤ 1048576) (h3 : m.length ≤ 1048576) :
    ∃ r, From (fun k => spec_l05Is.f k h t m) r ∧ From (fun k => impl_ValidPresence.f k h t m) r := by
  obtain ⟨r1, ⟨K1, e1⟩, ⟨L1, f1⟩⟩ := leases_both h h1
  obtain ⟨r2, ⟨K2, e2⟩, ⟨L2, f2⟩⟩ := leases_both t h2
  refine pair_loop (fun k i => spec_l05Is.l0 k m.length i h t m) (fun k i => impl_ValidPresence.l0 k m m.length i h t m) m.length (K1 + L1 + K2 + L2) (fun k i _ h0 h1 => ?_) ⟨decide ((m.length : Int) ≤ 30) && r1 && r2, fun k hk => ⟨?_, ?_⟩⟩ (fun k i => spec_l05Is.mono_l k _ _ _ _ _) (fun k i => impl_ValidPresence.mono_l k _ _ _ _ _ _)
  · simp only [spec_l05Is.l0, impl_ValidPresence.l0, h0, h1, if_true, spec_l01Member.f, impl_isMember.f, in_eq, in_some, Option.bind_some, wsucc h0 (by omega), wpred h0 (by omega), decide_eq_true_eq]
    by_cases c1 : 1 ≤ (rd_T85 m i).f0 ∧ (rd_T85 m i).f0 ≤ 1000
    · by_cases c2 : 0 ≤ (rd_T85 m i).f1 ∧ (rd_T85 m i).f1 ≤ 1000000000
      · by_cases c3 : i > 0
        · have c4 : 0 ≤ i - 1 := by omega
          have c7 : 1 ≤ i := by omega
          have c5 : i - 1 < (m.length : Int) := by omega
          by_cases c6 : (rd_T85 m (i - 1)).f0 ≥ (rd_T85 m i).f0
          · simp [c1, c2, c3, c4, c5, c6, c7]
          · simp [c1, c2, c3, c4, c5, c6, c7]
        · simp [c1, c2, c3]
      · simp [c1, c2]
    · simp [c1]
  · simp only [spec_l05Is.l0, Int.lt_irrefl, if_false, e1 k (by omega), e2 k (by omega), Option.bind_some]
    by_cases c : (m.length : Int) ≤ 30 <;> cases r1 <;> cases r2 <;> simp [c]
  · simp only [impl_ValidPresence.l0, Int.lt_irrefl, if_false, f1 k (by omega), f2 k (by omega), Option.bind_some]
    by_cases c : (m.length : Int) ≤ 30 <;> cases r1 <;> cases r2 <;> simp [c]
abbrev gl (l : List S90) (j : Nat) : S90 := l.getD j z90
def leaseB (l : List S90) (j : Nat) : Bool := decide (1 ≤ (gl l j).f0 ∧ (gl l j).f0 ≤ 1000) && (decide (0 ≤ (gl l j).f1 ∧ (gl l j).f1 ≤ 1000000) && (decide (j = 0) || decide ((gl l (j - 1)).f0 < (gl l j).f0)))
def leasesB (l : List S90) : Bool := (List.range l.length).all (leaseB l) && decide ((l.length : Int) ≤ 30)
theorem leases_from (l : List S90) (hl : l.length ≤ 1048576) : From (fun k => spec_l05Leases.f k l) (leasesB l) :=
  test_loopB (fun k i => spec_l05Leases.l0 k l l.length i) l.length 0 (leaseB l) (decide ((l.length : Int) ≤ 30)) (fun k i _ h0 h1 => by
    simp only [spec_l05Leases.l0, h0, h1, if_true, spec_l01Member.f, spec_l01Tick.f, in_eq, in_some, Option.bind_some, wsucc h0 (by omega), rd_T90, leaseB, gl]
    by_cases c1 : 1 ≤ (l.getD i.toNat z90).f0 ∧ (l.getD i.toNat z90).f0 ≤ 1000
    · by_cases c2 : 0 ≤ (l.getD i.toNat z90).f1 ∧ (l.getD i.toNat z90).f1 ≤ 1000000
      · by_cases c3 : i > 0
        · have p1 : wrap64 (i - 1) = i - 1 := wpred h0 (by omega)
          have p2 : (i - 1).toNat = i.toNat - 1 := by omega
          have p3 : 0 ≤ i - 1 := by omega
          have p4 : i - 1 < l.length := by omega
          have p5 : ¬ i.toNat = 0 := by omega
          by_cases c6 : (l.getD (i.toNat - 1) z90).f0 < (l.getD i.toNat z90).f0
          · have c7 : ¬ (l.getD (i.toNat - 1) z90).f0 ≥ (l.getD i.toNat z90).f0 := by omega
            simp only [c1, c2, c3, c6, c7, p1, p2, p3, p4, p5, if_true, if_false, decide_true, decide_false, and_self, Bool.true_and, Bool.false_or]
          · have c7 : (l.getD (i.toNat - 1) z90).f0 ≥ (l.getD i.toNat z90).f0 := by omega
            simp only [c1, c2, c3, c6, c7, p1, p2, p3, p4, p5, if_true, if_false, decide_true, decide_false, and_self, Bool.true_and, Bool.false_or, Bool.false_eq_true]
        · have p5 : i.toNat = 0 := by omega
          rw [p5] at c1 c2 ⊢
          simp only [c1, c2, c3, if_true, if_false, decide_true, and_self, Bool.true_and, Bool.true_or]
      · simp only [c1, c2, if_true, if_false, decide_true, decide_false, and_self, Bool.true_and, Bool.false_and, Bool.false_eq_true]
    · simp only [c1, if_false, decide_false, Bool.false_and, Bool.false_eq_true]) (fun k _ => by simp only [spec_l05Leases.l0, Int.lt_irrefl, if_false])
theorem leases_of_valid (h t : List S90) (m : List S85) (h1 : h.length ≤ 1048576) (h2 : t.length ≤ 1048576) (h3 : m.length ≤ 1048576) (hv : From (fun k => spec_l05Is.f k h t m) true) : leasesB h = true := by
  obtain ⟨K1, e1⟩ := leases_from h h1
  obtain ⟨K2, e2⟩ := leases_from t h2
  obtain ⟨K, hK⟩ := hv
  cases hb : leasesB h with
  | true => rfl
  | false =>
    rw [hb] at e1
    have key : ∀ (n k : Nat) (i : Int), 0 ≤ i → i ≤ m.length → (m.length : Int) - i = n → n + (K1 + K2) < k → spec_l05Is.l0 k m.length i h t m ≠ some true := by
      intro n
      induction n with
      | zero =>
        intro k i h0 h1 hn hk
        obtain ⟨k, rfl⟩ : ∃ m, k = m + 1 := ⟨k - 1, by omega⟩
        obtain rfl : i = m.length := by omega
        simp only [spec_l05Is.l0, Int.lt_irrefl, if_false, e1 k (by omega), Option.bind_some, Bool.false_eq_true]
        split <;> simp
      | succ n ih =>
        intro k i h0 h1 hn hk
        obtain ⟨k, rfl⟩ : ∃ m, k = m + 1 := ⟨k - 1, by omega⟩
        have hi : i < (m.length : Int) := by omega
        have hr := ih k (i + 1) (by omega) (by omega) (by omega) (by omega)
        simp only [spec_l05Is.l0, hi, h0, if_true, spec_l01Member.f, in_eq, in_some, Option.bind_some, wsucc h0 (by omega), wpred h0 (by omega)]
        split
        · split
          · split
            · split
              · split
                · split
                  · simp
                  · exact hr
                · simp
              · simp
            · exact hr
          · simp
        · simp
    exact absurd (hK (K + m.length + (K1 + K2) + 1) (by omega)) (key m.length _ 0 (by omega) (by omega) (by omega) (by omega))
theorem rising_of (l : List S90) (h : leasesB l = true) : ∀ i j, i < j → j < l.length → (gl l i).f0 < (gl l j).f0 := by
  refine steps_up (fun j => (gl l j).f0) l.length fun j h0 h1 => ?_
  have h2 := (Bool.and_eq_true _ _ ▸ h).1
  have h3 := List.all_eq_true.1 h2 j (List.mem_range.2 h1)
  simp only [leaseB, Bool.and_eq_true, Bool.or_eq_true, decide_eq_true_eq] at h3
  omega
theorem cmp_some (a b : Int) : cmp_Compare_int64.f a b = some (if a < b then -1 else if a > b then 1 else 0) := by
  simp only [cmp_Compare_int64.f, cmp_isNaN_int64.f, Option.bind_some]
  by_cases c : a < b
  · simp [c]
  · by_cases c2 : a > b <;> simp [c, c2]
theorem mid_of {a b : Int} (h0 : 0 ≤ a) (h1 : a ≤ b) (h2 : b ≤ 1048576) : wrap64 ((IntKind.u64.wrap (wrap64 (a + b))) / 2) = (a + b) / 2 := by
  rw [w64 (show -9223372036854775808 ≤ a + b by omega) (by omega), IntKind.wrap_u64, w64 (by omega) (by omega)]
  omega
/-- The search among numbers that rise: where it ends. -/
theorem search_at (l : List S90) (x : Int) (hl : l.length ≤ 1048576) : ∀ (n k : Nat) (lo hi : Int), 0 ≤ lo → lo ≤ hi → hi ≤ l.length → hi - lo ≤ n → n < k →
    (0 < lo → (gl l (lo - 1).toNat).f0 < x) → (hi < l.length → x ≤ (gl l hi.toNat).f0) →
    ∃ p : Int, 0 ≤ p ∧ p ≤ l.length ∧ (0 < p → (gl l (p - 1).toNat).f0 < x) ∧ (p < l.length → x ≤ (gl l p.toNat).f0) ∧
      impl_Lease_int64_until_1.l0 k l x l.length lo hi = some (p, decide (p < l.length ∧ (gl l p.toNat).f0 = x)) := by
  intro n
  induction n with
  | zero =>
    intro k lo hi h0 h1 h2 hn hk ha hb
    obtain ⟨k, rfl⟩ : ∃ m, k = m + 1 := ⟨k - 1, by omega⟩
    obtain rfl : lo = hi := by omega
    refine ⟨lo, h0, h2, ha, hb, ?_⟩
    simp only [impl_Lease_int64_until_1.l0, Int.lt_irrefl, if_false, impl_until_1.f, cmp_some, Option.bind_some, rd_T90]
    by_cases c : lo < (l.length : Int)
    · have := hb c
      simp only [gl] at this
      simp only [c, h0, if_true, true_and, gl]
      by_cases c2 : (l.getD lo.toNat z90).f0 = x
      · simp only [c2, Int.lt_irrefl, if_false, decide_true, gt_iff_lt]; rfl
      · have c3 : ¬ (l.getD lo.toNat z90).f0 < x := by omega
        have c4 : (l.getD lo.toNat z90).f0 > x := by omega
        simp only [c2, c3, c4, if_true, if_false, decide_false]
        rfl
    · simp only [c, if_false, false_and, decide_false]
  | succ n ih =>
    intro k lo hi h0 h1 h2 hn hk ha hb
    by_cases e : lo = hi
    · exact ih k lo hi h0 h1 h2 (by omega) (by omega) ha hb
    obtain ⟨k, rfl⟩ : ∃ m, k = m + 1 := ⟨k - 1, by omega⟩
    have c : lo < hi := by omega
    have c1 : 0 ≤ (lo + hi) / 2 := by omega
    have c2 : (lo + hi) / 2 < (l.length : Int) := by omega
    simp only [impl_Lease_int64_until_1.l0, mid_of h0 h1 (show hi ≤ 1048576 by omega), c, c1, c2, if_true, impl_until_1.f, cmp_some, Option.bind_some, rd_T90, wsucc c1 (by omega)]
    by_cases c3 : (l.getD ((lo + hi) / 2).toNat z90).f0 < x
    · simp only [c3, if_true, show (-1 : Int) < 0 from by omega]
      exact ih k _ _ (by omega) (by omega) h2 (by omega) (by omega) (fun _ => by rw [show (lo + hi) / 2 + 1 - 1 = (lo + hi) / 2 by omega]; exact c3) hb
    · have c4 : ¬ (if (l.getD ((lo + hi) / 2).toNat z90).f0 < x then (-1 : Int) else if (l.getD ((lo + hi) / 2).toNat z90).f0 > x then 1 else 0) < 0 := by
        rw [if_neg c3]; split <;> omega
      simp only [c4, if_false]
      exact ih k _ _ h0 (by omega) (by omega) (by omega) (by omega) ha (fun _ => by simp only [gl]; omega)
/-- Until when one who is in the list is there, or -1. -/
theorem until_both (l : List S90) (x : Int) (hl : l.length ≤ 1048576) (hs : ∀ i j, i < j → j < l.length → (gl l i).f0 < (gl l j).f0) :
    ∃ r, From (fun k => spec_l05Until.f k l x) r ∧ From (fun k => impl_until.f k l x) r ∧ (r = -1 ∨ ∃ j, j < l.length ∧ r = (gl l j).f1) := by
  obtain ⟨K, h⟩ := find_loop (fun k i => spec_l05Until.l0 k l x l.length i) l.length 0 (fun j => (gl l j).f0 = x) (fun j => (gl l j).f1) (-1) (fun k i _ h0 h1 => by
    simp only [spec_l05Until.l0, h0, h1, if_true, rd_T90, wsucc h0 (by omega), gl]) (fun k _ => by simp only [spec_l05Until.l0, Int.lt_irrefl, if_false])
  have hsearch := fun k (hk : l.length < k) => search_at l x hl l.length k 0 l.length (by omega) (by omega) (by omega) (by omega) hk (fun h => absurd h (by omega)) (fun h => absurd h (by omega))
  rcases h with ⟨j, hj, hp, hn, e⟩ | ⟨hn, e⟩
  · refine ⟨(gl l j).f1, ⟨K, e⟩, ⟨l.length + 1, fun k hk => ?_⟩, .inr ⟨j, hj, rfl⟩⟩
    obtain ⟨p, p0, p1, pa, pb, e2⟩ := hsearch k (by omega)
    have hpj : p = j := by
      rcases Int.lt_trichotomy p j with c | c | c
      · have a := pb (by omega)
        have b := hs p.toNat j (by omega) hj
        omega
      · exact c
      · have a := pa (by omega)
        by_cases d : (p - 1).toNat = j
        · rw [d] at a; omega
        · have b := hs j (p - 1).toNat (by omega) (by omega)
          omega
    subst hpj
    have hj2 : (j : Int) < l.length := by omega
    have hj3 : (0 : Int) ≤ j := by omega
    simp only [Int.toNat_natCast] at e2
    simp only [impl_until.f, impl_Lease_int64_until_1.f, e2, Option.bind_some, hp, hj2, hj3, true_and, decide_true, if_true, rd_T90, Int.toNat_natCast, gl]
  · refine ⟨-1, ⟨K, e⟩, ⟨l.length + 1, fun k hk => ?_⟩, .inl rfl⟩
    obtain ⟨p, p0, p1, pa, pb, e2⟩ := hsearch k (by omega)
    have hd : ¬ (p < l.length ∧ (gl l p.toNat).f0 = x) := fun ⟨h1, h2⟩ => hn p.toNat (by omega) h2
    simp only [impl_until.f, impl_Lease_int64_until_1.f, e2, Option.bind_some, hd, decide_false, Bool.false_eq_true, if_false]
def stp (a s n : Int) : Int := if n > a then (if s < 0 then n else if n < s then n else s) else s
def Best (a s : Int) (D : List Int) : Prop := (s = -1 ∧ ∀ n ∈ D, n ≤ a) ∨ (s > a ∧ s ∈ D ∧ ∀ n ∈ D, n > a → s ≤ n)
theorem best_step {a s : Int} {D : List Int} (h0 : 0 ≤ a) (h : Best a s D) (n : Int) : Best a (stp a s n) (D ++ [n]) := by
  unfold stp
  rcases h with ⟨h1, h2⟩ | ⟨h1, h2, h3⟩
  · subst h1
    by_cases c : n > a
    · rw [if_pos c, if_pos (by omega)]
      refine .inr ⟨c, by simp, fun m hm hma => ?_⟩
      rcases List.mem_append.1 hm with e | e
      · have := h2 m e; omega
      · rw [List.mem_singleton] at e; omega
    · rw [if_neg c]
      refine .inl ⟨rfl, fun m hm => ?_⟩
      rcases List.mem_append.1 hm with e | e
      · exact h2 m e
      · rw [List.mem_singleton] at e; omega
  · by_cases c : n > a
    · rw [if_pos c, if_neg (by omega)]
      by_cases c2 : n < s
      · rw [if_pos c2]
        refine .inr ⟨c, by simp, fun m hm hma => ?_⟩
        rcases List.mem_append.1 hm with e | e
        · have := h3 m e hma; omega
        · rw [List.mem_singleton] at e; omega
      · rw [if_neg c2]
        refine .inr ⟨h1, List.mem_append_left _ h2, fun m hm hma => ?_⟩
        rcases List.mem_append.1 hm with e | e
        · exact h3 m e hma
        · rw [List.mem_singleton] at e; omega
    · rw [if_neg c]
      refine .inr ⟨h1, List.mem_append_left _ h2, fun m hm hma => ?_⟩
      rcases List.mem_append.1 hm with e | e
      · exact h3 m e hma
      · rw [List.mem_singleton] at e; omega
theorem best_fold {a : Int} (h0 : 0 ≤ a) : ∀ (A : List Int) (s : Int) (D : List Int), Best a s D → Best a (A.foldl (stp a) s) (D ++ A)
  | [], s, D, h => by simpa using h
  | n :: A, s, D, h => by
    have := best_fold h0 A (stp a s n) (D ++ [n]) (best_step h0 h n)
    simpa using this
theorem best_one {a r r' : Int} {A B : List Int} (hr : Best a r A) (hr' : Best a r' B) (h : ∀ n, n > a → (n ∈ A ↔ n ∈ B)) : r = r' := by
  rcases hr with ⟨h1, h2⟩ | ⟨h1, h2, h3⟩
  · rcases hr' with ⟨g1, g2⟩ | ⟨g1, g2, g3⟩
    · omega
    · have := h2 r' ((h r' g1).2 g2); omega
  · rcases hr' with ⟨g1, g2⟩ | ⟨g1, g2, g3⟩
    · have := g2 r ((h r h1).1 h2); omega
    · have e1 := h3 r' ((h r' g1).2 g2) g1
      have e2 := g3 r ((h r h1).1 h2) h1
      omega
/-- What the reference does at a lease of typing. -/
def stt (U : Int → Int) (a s : Int) (l : S90) : Int := if U l.f0 ≥ l.f1 then stp a s l.f1 else s
theorem stt_fold (U : Int → Int) (a : Int) : ∀ (t : List S90) (s : Int), t.foldl (stt U a) s = ((t.filter fun l => decide (U l.f0 ≥ l.f1)).map fun l => l.f1).foldl (stp a) s
  | [], s => rfl
  | l :: t, s => by
    rw [List.foldl_cons, List.filter_cons, stt_fold U a t]
    unfold stt
    by_cases c : U l.f0 ≥ l.f1
    · simp [c]
    · simp [c]
theorem concat_two (a b : List S90) (ha : a.length ≤ 1048576) (hb : b.length ≤ 1048576) (k : Nat) (hk : 6 ≤ k) : impl_Lease.f k [a, b] = some (a ++ b) := by
  obtain ⟨k, rfl⟩ : ∃ n, k = n + 6 := ⟨k - 6, by omega⟩
  have r0 : rd_L5 [a, b] 0 = a := rfl
  have r1 : rd_L5 [a, b] 1 = b := rfl
  have w0 : wrap64 (0 + 1) = 1 := by rw [w64 (by omega) (by omega)]; rfl
  have w1 : wrap64 (1 + 1) = 2 := by rw [w64 (by omega) (by omega)]; rfl
  have wa : wrap64 (0 + (a.length : Int)) = a.length := by rw [w64 (by omega) (by omega)]; omega
  have wb : wrap64 ((a.length : Int) + b.length) = a.length + b.length := w64 (by omega) (by omega)
  have ha' : ¬ (a.length : Int) < 0 := by omega
  have hb' : ¬ (a.length : Int) + b.length < 0 := by omega
  have hg : slices_Grow.f ([] : List S90) ((a.length : Int) + b.length) = some [] := by
    unfold slices_Grow.f
    rw [if_pos ⟨by omega, by simp; omega⟩]
  have l0 : [a, b].length = 2 := rfl
  have h1 : (0 : Nat) + a.length < 8796093022208 := by omega
  have h2 : a.length + b.length < 8796093022208 := by omega
  have c2 : ((2 : Nat) : Int) = 2 := rfl
  simp only [impl_Lease.f, impl_Lease.l0, l0, c2, r0, r1, w0, w1, wa, wb, ha', hb', hg, Option.bind_some, if_false, if_true, impl_Lease.l1, List.nil_append, List.length_nil, h1, h2, show (0 : Int) < 2 by decide, show (0 : Int) ≤ 0 by decide, show (1 : Int) < 2 by decide, show (0 : Int) ≤ 1 by decide, Int.lt_irrefl]
theorem next_both (h t : List S90) (m : List S85) (a : Int) (ha : 0 ≤ a) (h1 : h.length ≤ 1048576) (h2 : t.length ≤ 1048576) (hs : ∀ i j, i < j → j < h.length → (gl h i).f0 < (gl h j).f0) :
    ∃ r : Int × Bool, From (fun k => spec_NextChange.l0 k a (-1) h.length 0 h t m) r ∧ From (fun k => (impl_Presence_typists.f k h t m).bind fun t222 => ((impl_Lease.f k [h, t222]).bind fun t228 => (impl_NextChange.l0 k a (-1) t228 (t228.length : Int) 0))) r := by
  have hu : ∃ U : Int → Int, ∀ x, From (fun k => spec_l05Until.f k h x) (U x) ∧ From (fun k => impl_until.f k h x) (U x) ∧ (U x = -1 ∨ ∃ j, j < h.length ∧ U x = (gl h j).f1) := ⟨fun x => (until_both h x h1 hs).choose, fun x => (until_both h x h1 hs).choose_spec⟩
  obtain ⟨U, hU⟩ := hu
  obtain ⟨K1, e1⟩ := from_all (g := fun k j => spec_l05Until.f k h (gl t j).f0) (fun j => U (gl t j).f0) t.length fun j _ => (hU _).1
  obtain ⟨K2, e2⟩ := from_all (g := fun k j => impl_until.f k h (gl t j).f0) (fun j => U (gl t j).f0) t.length fun j _ => (hU _).2.1
  have sb : Best a (h.foldl (fun s l => stp a s l.f1) (-1)) (h.map fun l => l.f1) := by
    have := best_fold ha (h.map fun l => l.f1) (-1) [] (.inl ⟨rfl, by simp⟩)
    rw [List.foldl_map] at this
    simpa using this
  generalize hb1 : h.foldl (fun s l => stp a s l.f1) (-1) = s1 at sb
  have sb2 : Best a (t.foldl (stt U a) s1) ((h.map fun l => l.f1) ++ (t.filter fun l => decide (U l.f0 ≥ l.f1)).map fun l => l.f1) := by
    rw [stt_fold]; exact best_fold ha _ _ _ sb
  generalize hb2 : t.foldl (stt U a) s1 = s2 at sb2
  refine ⟨if s2 < 0 then (0, false) else (s2, true), ?_, ?_⟩
  · obtain ⟨L, hL⟩ := fold_then (fun k s i => spec_NextChange.l1 k a s t.length i h t m) t z90 K1 (stt U a) s1 (if s2 < 0 then (0, false) else (s2, true)) (fun k i hk h0 h1 => by
      have w := e1 k hk i.toNat (by omega)
      simp only [gl] at w
      generalize (t.take i.toNat).foldl (stt U a) s1 = s
      simp only [spec_NextChange.l1, h0, h1, if_true, rd_T90, wsucc h0 (by omega), stt, stp]
      by_cases c1 : (t.getD i.toNat z90).f1 > a
      · simp only [c1, if_true, w, Option.bind_some]
        by_cases c2 : U (t.getD i.toNat z90).f0 ≥ (t.getD i.toNat z90).f1
        · simp only [c2, if_true]
          by_cases c3 : s < 0
          · simp only [c3, if_true]
          · by_cases c4 : (t.getD i.toNat z90).f1 < s
            · simp only [c3, c4, if_true, if_false]
            · simp only [c3, c4, if_false]
        · simp only [c2, if_false]
      · simp only [c1, if_false, ite_self]) (fun k _ => by
      simp only [spec_NextChange.l1, Int.lt_irrefl, if_false, hb2]
      split <;> rfl)
    exact fold_then (fun k s i => spec_NextChange.l0 k a s h.length i h t m) h z90 L (fun s l => stp a s l.f1) (-1) _ (fun k i hk h0 h1 => by
      generalize (h.take i.toNat).foldl (fun s l => stp a s l.f1) (-1) = s
      simp only [spec_NextChange.l0, h0, h1, if_true, rd_T90, wsucc h0 (by omega), stp]
      by_cases c1 : (h.getD i.toNat z90).f1 > a
      · simp only [c1, if_true]
        by_cases c3 : s < 0
        · simp only [c3, if_true]
        · by_cases c4 : (h.getD i.toNat z90).f1 < s
          · simp only [c3, c4, if_true, if_false]
          · simp only [c3, c4, if_false]
      · simp only [c1, if_false]) (fun k hk => by
      simp only [spec_NextChange.l0, Int.lt_irrefl, if_false, hb1]
      exact hL k hk)
  · obtain ⟨L2, f2⟩ := collect_loop (fun k out i => impl_Presence_typists.l0 k out t t.length i h t m) t z90 K2 (fun y => some (⟨y.f0, mn y.f1 (U y.f0)⟩ : S90)) (fun k out i hk h0 h1 ho => by
      have w := e2 k hk i.toNat (by omega)
      have hb : out.length < 8796093022208 := by omega
      simp only [gl] at w
      simp only [impl_Presence_typists.l0, h0, h1, if_true, rd_T90, w, Option.bind_some, hb, wsucc h0 (by omega), Option.toList]) (fun k out _ => by simp only [impl_Presence_typists.l0, Int.lt_irrefl, if_false])
    generalize hq : t.filterMap (fun y => some (⟨y.f0, mn y.f1 (U y.f0)⟩ : S90)) = q at f2
    have hql : q.length ≤ 1048576 := by rw [← hq]; exact Nat.le_trans (List.length_filterMap_le _ _) h2
    have qb : Best a ((h ++ q).foldl (fun s l => stp a s l.f1) (-1)) ((h ++ q).map fun l => l.f1) := by
      have := best_fold ha ((h ++ q).map fun l => l.f1) (-1) [] (.inl ⟨rfl, by simp⟩)
      rw [List.foldl_map] at this
      simpa using this
    generalize hb3 : (h ++ q).foldl (fun s l => stp a s l.f1) (-1) = s3 at qb
    have es : s3 = s2 := by
      refine best_one qb sb2 fun n hn => ?_
      rw [List.map_append, List.mem_append, List.mem_append]
      constructor
      · rintro (e | e)
        · exact .inl e
        · rw [← hq, List.mem_map] at e
          obtain ⟨y, hy, rfl⟩ := e
          rw [List.mem_filterMap] at hy
          obtain ⟨x, hx, hxy⟩ := hy
          have hxy := Option.some.inj hxy
          subst hxy
          simp only [mn] at hn ⊢
          by_cases c : U x.f0 < x.f1
          · rw [if_pos c] at hn ⊢
            rcases (hU x.f0).2.2 with e | ⟨j, hj, e⟩
            · omega
            · refine .inl (List.mem_map.2 ⟨gl h j, getD_mem _ hj, e.symm⟩)
          · rw [if_neg c] at hn ⊢
            exact .inr (List.mem_map.2 ⟨x, List.mem_filter.2 ⟨hx, by simp; omega⟩, rfl⟩)
      · rintro (e | e)
        · exact .inl e
        · rw [List.mem_map] at e
          obtain ⟨x, hx, rfl⟩ := e
          rw [List.mem_filter] at hx
          have hx2 : U x.f0 ≥ x.f1 := by simpa using hx.2
          refine .inr ?_
          rw [← hq, List.mem_map]
          refine ⟨(⟨x.f0, mn x.f1 (U x.f0)⟩ : S90), List.mem_filterMap.2 ⟨x, hx.1, rfl⟩, ?_⟩
          simp only [mn]
          rw [if_neg (by omega)]
    have hlen : (h ++ q).length ≤ 2097152 := by rw [List.length_append]; omega
    obtain ⟨L3, f3⟩ := fold_then (fun k s i => impl_NextChange.l0 k a s (h ++ q) (h ++ q).length i) (h ++ q) z90 0 (fun s l => stp a s l.f1) (-1) (if s2 < 0 then (0, false) else (s2, true)) (fun k i hk h0 h1 => by
      generalize ((h ++ q).take i.toNat).foldl (fun s l => stp a s l.f1) (-1) = s
      generalize h ++ q = hq' at *
      simp only [impl_NextChange.l0, h0, h1, if_true, rd_T90, wsucc h0 (by omega), stp]
      by_cases c1 : (hq'.getD i.toNat z90).f1 > a
      · simp only [c1, if_true]
        by_cases c3 : s < 0
        · simp only [c3, if_true]
        · by_cases c4 : (hq'.getD i.toNat z90).f1 < s
          · simp only [c3, c4, if_true, if_false]
          · simp only [c3, c4, if_false]
      · simp only [c1, if_false]) (fun k _ => by
      rw [es] at hb3
      simp only [impl_NextChange.l0, Int.lt_irrefl, if_false, hb3]
      split <;> rfl)
    refine ⟨L2 + L3 + 6, fun k hk => ?_⟩
    have g2 : impl_Presence_typists.f k h t m = some q := f2 k (by omega)
    simp only [g2, Option.bind_some, concat_two h q h1 hql k (by omega)]
    exact f3 k (by omega)
theorem FnExactNextChange : laws_FnExactNextChange.Pure := by
  intro h t m a ⟨h1, _⟩ ⟨h2, _⟩ ⟨h3, _⟩ _
  obtain ⟨s, hs, hc⟩ := szPresence_tells h t m 1048576 (by omega) (by omega) h1 h2 h3
  rcases hc with hc | ⟨b1, b2, b3, b4, b5⟩
  · exact ⟨0, by simp only [laws_FnExactNextChange.f, hs, Option.bind_some, hc, if_true]⟩
  have hn : ¬ s < 0 := by omega
  obtain ⟨K1, e1⟩ := toPresence_from h t m b1 b2 b3
  have b1' : (h.map convLease).length ≤ 1048576 := by simpa using b1
  have b2' : (t.map convLease).length ≤ 1048576 := by simpa using b2
  have b3' : (m.map convMark).length ≤ 1048576 := by simpa using b3
  generalize h.map convLease = h' at *
  generalize t.map convLease = t' at *
  generalize m.map convMark = m' at *
  obtain ⟨K2, e2⟩ := eqPresence_from h' t' m' b1' b2' b3'
  have both : ∃ g : Int × Bool, From (fun k => spec_NextChange.f k h' t' m' a) g ∧ From (fun k => impl_NextChange.f k h' t' m' a) g := by
    obtain ⟨r, ⟨K3, e3⟩, ⟨K4, e4⟩⟩ := valid_both h' t' m' b1' b2' b3'
    cases r with
    | false =>
      refine ⟨(0, false), ⟨K3 + 1, fun k hk => ?_⟩, ⟨K4 + 1, fun k hk => ?_⟩⟩
      · obtain ⟨k, rfl⟩ : ∃ n, k = n + 1 := ⟨k - 1, by omega⟩
        simp only [spec_NextChange.f, e3 (k + 1) (by omega), Option.bind_some, Bool.false_eq_true, if_false, spec_NextChange.j0, if_true]
      · obtain ⟨k, rfl⟩ : ∃ n, k = n + 1 := ⟨k - 1, by omega⟩
        simp only [impl_NextChange.f, e4 (k + 1) (by omega), Option.bind_some, Bool.false_eq_true, if_false, impl_NextChange.j0, if_true]
    | true =>
      by_cases c : 0 ≤ a ∧ a ≤ 1000000
      · obtain ⟨g, ⟨K5, e5⟩, ⟨K6, e6⟩⟩ := next_both h' t' m' a c.1 b1' b2' (rising_of h' (leases_of_valid h' t' m' b1' b2' b3' ⟨K3, e3⟩))
        refine ⟨g, ⟨K3 + K5 + 1, fun k hk => ?_⟩, ⟨K4 + K6 + 1, fun k hk => ?_⟩⟩
        · obtain ⟨k, rfl⟩ : ∃ n, k = n + 1 := ⟨k - 1, by omega⟩
          simp only [spec_NextChange.f, e3 (k + 1) (by omega), Option.bind_some, if_true, spec_l01Tick.f, in_eq, in_some, c, and_self, decide_true, Bool.not_true, spec_NextChange.j0, Bool.false_eq_true, if_false]
          exact e5 k (by omega)
        · obtain ⟨k, rfl⟩ : ∃ n, k = n + 1 := ⟨k - 1, by omega⟩
          simp only [impl_NextChange.f, e4 (k + 1) (by omega), Option.bind_some, if_true, impl_isTick.f, in_some, c, and_self, decide_true, Bool.not_true, impl_NextChange.j0, Bool.false_eq_true, if_false]
          exact e6 k (by omega)
      · refine ⟨(0, false), ⟨K3 + 1, fun k hk => ?_⟩, ⟨K4 + 1, fun k hk => ?_⟩⟩
        · obtain ⟨k, rfl⟩ : ∃ n, k = n + 1 := ⟨k - 1, by omega⟩
          simp only [spec_NextChange.f, e3 (k + 1) (by omega), Option.bind_some, if_true, spec_l01Tick.f, in_eq, in_some, c, decide_false, Bool.not_false, spec_NextChange.j0]
        · obtain ⟨k, rfl⟩ : ∃ n, k = n + 1 := ⟨k - 1, by omega⟩
          simp only [impl_NextChange.f, e4 (k + 1) (by omega), Option.bind_some, if_true, impl_isTick.f, in_some, c, decide_false, Bool.not_false, impl_NextChange.j0]
  obtain ⟨g, ⟨K8, e8⟩, ⟨K9, e9⟩⟩ := both
  have hbb : (g.2 != g.2) = false := by simp
  refine ⟨K1 + K2 + K8 + K9 + 4, ?_⟩
  have E1 := fun i => e1 (K1 + K2 + K8 + K9 + i) (by omega)
  have E2 := fun i => e2 (K1 + K2 + K8 + K9 + i) (by omega)
  have E8 := fun i => e8 (K1 + K2 + K8 + K9 + i) (by omega)
  have E9 := fun i => e9 (K1 + K2 + K8 + K9 + i) (by omega)
  simp only [laws_FnExactNextChange.f, hs, hn, Option.bind_some, if_false]
  simp only [laws_FnExactNextChange.j0, E1, E8, E9, hbb, Option.bind_some, if_true]
  simp only [laws_FnExactNextChange.j1, Bool.false_eq_true, if_false]
  simp only [laws_FnExactNextChange.j2, E1, E2, Option.bind_some, if_true]

end Go.Proofs.Ytaafhggihebicaa.Pure
