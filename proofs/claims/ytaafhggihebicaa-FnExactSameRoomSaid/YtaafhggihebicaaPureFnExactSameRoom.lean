/- The program's SameRoom returns what the reference's returns, for every two rooms that can be read. -/
import Derived.Test.YtaafhggihebicaaXFnExactSameRoomx10
import Derived.Test.YtaafhggihebicaaXP
namespace Go.Proofs.Ytaafhggihebicaa.Pure
open Go.RowKit Go.Proofs.Ytaafhggihebicaa.XFnExactSameRoom Go.Proofs.YtaafhggihebicaaW.PrintWords Go.Proofs.YtaafhggihebicaaW.PrintLast Go.Proofs.Ytaafhggihebicaa.XP Go.Proofs.Ytaafhggihebicaa.XP Go.Proofs.Ytaafhggihebicaa.XP Go.Proofs.Ytaafhggihebicaa.XP
set_option linter.unusedVariables false
set_option linter.unusedSimpArgs false

def convMember : S147 → S122 := (fun x : S147 => (⟨x.f0, x.f1, x.f2, x.f3⟩ : S122))
theorem toMemberS_from (l : List S147) (h : l.length ≤ 1048576) : From (fun k => laws_toMemberS.f k l) (l.map convMember) := by
  obtain ⟨K, hK⟩ := fill_all (F := laws_toMemberS.l0) convMember z147 z122 (fun k xs ys i h0 h1 h2 h3 => by
      simp only [laws_toMemberS.l0, h0, h1, h2, if_true, laws_toMember.f, Option.bind_some, wsucc h0 h3]; rfl) (fun k xs ys i h => by simp only [laws_toMemberS.l0, h, if_false]) l (by omega)
  refine ⟨K, fun k hk => ?_⟩
  simp only [laws_toMemberS.f, Int.toNat_natCast]
  rw [if_pos (by omega), if_pos (by omega)]
  exact hK k hk
theorem eqMemberS_from (l : List S122) (h : l.length ≤ 1048576) : From (fun k => laws_eqMemberS.f k l l) true := by
  obtain ⟨K, hK⟩ := all_loop (fun k i => laws_eqMemberS.l0 k l l i) l.length (by omega) 0 true (fun k i _ h0 h1 => by
      simp only [laws_eqMemberS.l0, h0, h1, if_true, laws_eqMember.f, Option.bind_some, wsucc h0 (by omega)]) (fun k i _ h _ => by simp only [laws_eqMemberS.l0, h, if_false])
  refine ⟨K, fun k hk => ?_⟩
  simp only [laws_eqMemberS.f, if_true]
  exact hK k hk
def convInvite : S149 → S124 := (fun x : S149 => (⟨x.f0, x.f1, x.f2⟩ : S124))
theorem toInviteS_from (l : List S149) (h : l.length ≤ 1048576) : From (fun k => laws_toInviteS.f k l) (l.map convInvite) := by
  obtain ⟨K, hK⟩ := fill_all (F := laws_toInviteS.l0) convInvite z149 z124 (fun k xs ys i h0 h1 h2 h3 => by
      simp only [laws_toInviteS.l0, h0, h1, h2, if_true, laws_toInvite.f, Option.bind_some, wsucc h0 h3]; rfl) (fun k xs ys i h => by simp only [laws_toInviteS.l0, h, if_false]) l (by omega)
  refine ⟨K, fun k hk => ?_⟩
  simp only [laws_toInviteS.f, Int.toNat_natCast]
  rw [if_pos (by omega), if_pos (by omega)]
  exact hK k hk
theorem eqInviteS_from (l : List S124) (h : l.length ≤ 1048576) : From (fun k => laws_eqInviteS.f k l l) true := by
  obtain ⟨K, hK⟩ := all_loop (fun k i => laws_eqInviteS.l0 k l l i) l.length (by omega) 0 true (fun k i _ h0 h1 => by
      simp only [laws_eqInviteS.l0, h0, h1, if_true, laws_eqInvite.f, Option.bind_some, wsucc h0 (by omega)]) (fun k i _ h _ => by simp only [laws_eqInviteS.l0, h, if_false])
  refine ⟨K, fun k hk => ?_⟩
  simp only [laws_eqInviteS.f, if_true]
  exact hK k hk
def convBan : S151 → S126 := (fun x : S151 => (⟨x.f0, x.f1⟩ : S126))
theorem toBanS_from (l : List S151) (h : l.length ≤ 1048576) : From (fun k => laws_toBanS.f k l) (l.map convBan) := by
  obtain ⟨K, hK⟩ := fill_all (F := laws_toBanS.l0) convBan z151 z126 (fun k xs ys i h0 h1 h2 h3 => by
      simp only [laws_toBanS.l0, h0, h1, h2, if_true, laws_toBan.f, Option.bind_some, wsucc h0 h3]; rfl) (fun k xs ys i h => by simp only [laws_toBanS.l0, h, if_false]) l (by omega)
  refine ⟨K, fun k hk => ?_⟩
  simp only [laws_toBanS.f, Int.toNat_natCast]
  rw [if_pos (by omega), if_pos (by omega)]
  exact hK k hk
theorem eqBanS_from (l : List S126) (h : l.length ≤ 1048576) : From (fun k => laws_eqBanS.f k l l) true := by
  obtain ⟨K, hK⟩ := all_loop (fun k i => laws_eqBanS.l0 k l l i) l.length (by omega) 0 true (fun k i _ h0 h1 => by
      simp only [laws_eqBanS.l0, h0, h1, if_true, laws_eqBan.f, Option.bind_some, wsucc h0 (by omega)]) (fun k i _ h _ => by simp only [laws_eqBanS.l0, h, if_false])
  refine ⟨K, fun k hk => ?_⟩
  simp only [laws_eqBanS.f, if_true]
  exact hK k hk
theorem sz_le (n : Nat) (a r : Int) (hl : n ≤ 9223372036854775807) (ha : 0 ≤ a) (ha2 : a ≤ 1048576) (h : (if (wrap64 (a - (n : Int))) < 0 then (some (-1)) else (some (wrap64 (a - (n : Int))))) = some r) : r < 0 ∨ ((n : Int) ≤ a ∧ r = a - n) := by
  rw [w64 (show -9223372036854775808 ≤ a - (n : Int) by omega) (show a - (n : Int) ≤ 9223372036854775807 by omega)] at h
  split at h <;> (cases h; omega)
theorem sz_some (n : Nat) (a : Int) : ∃ r, (if (wrap64 (a - (n : Int))) < 0 then (some (-1)) else (some (wrap64 (a - (n : Int))))) = some r := by split <;> exact ⟨_, rfl⟩
theorem szRoom_tells (o : Bool) (h : List S147) (t : List S149) (m : List S151) (a : Int) (ha : 0 ≤ a) (ha2 : a ≤ 1048576) (h1 : h.length ≤ 9223372036854775807) (h2 : t.length ≤ 9223372036854775807) (h3 : m.length ≤ 9223372036854775807) :
    ∃ r, laws_szRoom.f o h t m a = some r ∧ (r < 0 ∨ (h.length ≤ 1048576 ∧ t.length ≤ 1048576 ∧ m.length ≤ 1048576 ∧ 0 ≤ r ∧ r ≤ a)) := by
  unfold laws_szRoom.f laws_szMemberS.f laws_szInviteS.f laws_szBanS.f
  obtain ⟨r1, e1⟩ := sz_some h.length a
  have b1 := sz_le h.length a r1 h1 ha ha2 e1
  rw [e1, Option.bind_some]
  by_cases c1 : r1 < 0
  · rw [if_pos c1]; exact ⟨_, rfl, .inl (by omega)⟩
  rw [if_neg c1]
  obtain ⟨r2, e2⟩ := sz_some t.length r1
  have b2 := sz_le t.length r1 r2 h2 (by omega) (by omega) e2
  rw [e2, Option.bind_some]
  by_cases c2 : r2 < 0
  · rw [if_pos c2]; exact ⟨_, rfl, .inl (by omega)⟩
  rw [if_neg c2]
  obtain ⟨r3, e3⟩ := sz_some m.length r2
  have b3 := sz_le m.length r2 r3 h3 (by omega) (by omega) e3
  rw [e3, Option.bind_some]
  by_cases c3 : r3 < 0
  · rw [if_pos c3]; exact ⟨_, rfl, .inl (by omega)⟩
  rw [if_neg c3]
  exact ⟨_, rfl, .inr (by omega)⟩
theorem toRoom_from (o : Bool) (h : List S147) (t : List S149) (m : List S151) (h1 : h.length ≤ 1048576) (h2 : t.length ≤ 1048576) (h3 : m.length ≤ 1048576) :
    From (fun k => laws_toRoom.f k o h t m) (o, h.map convMember, t.map convInvite, m.map convBan) := by
  obtain ⟨K1, e1⟩ := toMemberS_from h h1
  obtain ⟨K2, e2⟩ := toInviteS_from t h2
  obtain ⟨K3, e3⟩ := toBanS_from m h3
  refine ⟨K1 + K2 + K3, fun k hk => ?_⟩
  simp only [laws_toRoom.f, e1 k (by omega), e2 k (by omega), e3 k (by omega), Option.bind_some]
theorem eqRoom_from (o : Bool) (h : List S122) (t : List S124) (m : List S126) (h1 : h.length ≤ 1048576) (h2 : t.length ≤ 1048576) (h3 : m.length ≤ 1048576) :
    From (fun k => laws_eqRoom.f k o h t m o h t m) true := by
  obtain ⟨K1, e1⟩ := eqMemberS_from h h1
  obtain ⟨K2, e2⟩ := eqInviteS_from t h2
  obtain ⟨K3, e3⟩ := eqBanS_from m h3
  refine ⟨K1 + K2 + K3, fun k hk => ?_⟩
  simp only [laws_eqRoom.f, e1 k (by omega), e2 k (by omega), e3 k (by omega), Option.bind_some, if_true, bne_self_eq_false, Bool.false_eq_true, if_false]
def sameMember (x y : S122) : Bool := x.f0 == y.f0 && x.f1 == y.f1 && x.f2 == y.f2 && x.f3 == y.f3
theorem impl_Member_from (l m : List S122) (h : l.length ≤ 1048576) : From (fun k => impl_Member.f k l m) (decide (l.length = m.length) && (List.range l.length).all fun j => sameMember (l.getD j z122) (m.getD j z122)) := by
  by_cases hl : l.length = m.length
  · obtain ⟨K, hK⟩ := test_loopB (fun k i => impl_Member.l0 k l m l.length i) l.length 0 (fun j => sameMember (l.getD j z122) (m.getD j z122)) true (fun k i _ h0 h1 => by
      have h2 : i < (m.length : Int) := by omega
      simp only [impl_Member.l0, h0, h1, h2, if_true, wsucc h0 (by omega), sameMember, rd_T122]
      by_cases c0 : (l.getD i.toNat z122).f0 = (m.getD i.toNat z122).f0 <;> by_cases c1 : (l.getD i.toNat z122).f1 = (m.getD i.toNat z122).f1 <;> by_cases c2 : (l.getD i.toNat z122).f2 = (m.getD i.toNat z122).f2 <;> by_cases c3 : (l.getD i.toNat z122).f3 = (m.getD i.toNat z122).f3 <;> simp [c0, c1, c2, c3, -List.getD_eq_getElem?_getD]) (fun k _ => by simp only [impl_Member.l0, Int.lt_irrefl, if_false])
    refine ⟨K, fun k hk => ?_⟩
    have h1 : (l.length : Int) = (m.length : Int) := by omega
    simp only [impl_Member.f, h1, if_true]
    rw [← h1, hK k hk, hl]
    simp only [decide_true, Bool.true_and, Bool.and_true]
  · refine ⟨0, fun k _ => ?_⟩
    have h1 : ¬ (l.length : Int) = (m.length : Int) := by omega
    simp only [impl_Member.f, h1, if_false, hl, decide_false, Bool.false_and]
def sameInvite (x y : S124) : Bool := x.f0 == y.f0 && x.f1 == y.f1 && x.f2 == y.f2
theorem impl_Invite_from (l m : List S124) (h : l.length ≤ 1048576) : From (fun k => impl_Invite.f k l m) (decide (l.length = m.length) && (List.range l.length).all fun j => sameInvite (l.getD j z124) (m.getD j z124)) := by
  by_cases hl : l.length = m.length
  · obtain ⟨K, hK⟩ := test_loopB (fun k i => impl_Invite.l0 k l m l.length i) l.length 0 (fun j => sameInvite (l.getD j z124) (m.getD j z124)) true (fun k i _ h0 h1 => by
      have h2 : i < (m.length : Int) := by omega
      simp only [impl_Invite.l0, h0, h1, h2, if_true, wsucc h0 (by omega), sameInvite, rd_T124]
      by_cases c0 : (l.getD i.toNat z124).f0 = (m.getD i.toNat z124).f0 <;> by_cases c1 : (l.getD i.toNat z124).f1 = (m.getD i.toNat z124).f1 <;> by_cases c2 : (l.getD i.toNat z124).f2 = (m.getD i.toNat z124).f2 <;> simp [c0, c1, c2, -List.getD_eq_getElem?_getD]) (fun k _ => by simp only [impl_Invite.l0, Int.lt_irrefl, if_false])
    refine ⟨K, fun k hk => ?_⟩
    have h1 : (l.length : Int) = (m.length : Int) := by omega
    simp only [impl_Invite.f, h1, if_true]
    rw [← h1, hK k hk, hl]
    simp only [decide_true, Bool.true_and, Bool.and_true]
  · refine ⟨0, fun k _ => ?_⟩
    have h1 : ¬ (l.length : Int) = (m.length : Int) := by omega
    simp only [impl_Invite.f, h1, if_false, hl, decide_false, Bool.false_and]
def sameBan (x y : S126) : Bool := x.f0 == y.f0 && x.f1 == y.f1
theorem impl_Ban_from (l m : List S126) (h : l.length ≤ 1048576) : From (fun k => impl_Ban.f k l m) (decide (l.length = m.length) && (List.range l.length).all fun j => sameBan (l.getD j z126) (m.getD j z126)) := by
  by_cases hl : l.length = m.length
  · obtain ⟨K, hK⟩ := test_loopB (fun k i => impl_Ban.l0 k l m l.length i) l.length 0 (fun j => sameBan (l.getD j z126) (m.getD j z126)) true (fun k i _ h0 h1 => by
      have h2 : i < (m.length : Int) := by omega
      simp only [impl_Ban.l0, h0, h1, h2, if_true, wsucc h0 (by omega), sameBan, rd_T126]
      by_cases c0 : (l.getD i.toNat z126).f0 = (m.getD i.toNat z126).f0 <;> by_cases c1 : (l.getD i.toNat z126).f1 = (m.getD i.toNat z126).f1 <;> simp [c0, c1, -List.getD_eq_getElem?_getD]) (fun k _ => by simp only [impl_Ban.l0, Int.lt_irrefl, if_false])
    refine ⟨K, fun k hk => ?_⟩
    have h1 : (l.length : Int) = (m.length : Int) := by omega
    simp only [impl_Ban.f, h1, if_true]
    rw [← h1, hK k hk, hl]
    simp only [decide_true, Bool.true_and, Bool.and_true]
  · refine ⟨0, fun k _ => ?_⟩
    have h1 : ¬ (l.length : Int) = (m.length : Int) := by omega
    simp only [impl_Ban.f, h1, if_false, hl, decide_false, Bool.false_and]
def allM (a b : List S122) : Bool := (List.range a.length).all fun j => sameMember (a.getD j z122) (b.getD j z122)
def allI (a b : List S124) : Bool := (List.range a.length).all fun j => sameInvite (a.getD j z124) (b.getD j z124)
def allB (a b : List S126) : Bool := (List.range a.length).all fun j => sameBan (a.getD j z126) (b.getD j z126)
theorem spec_loops (o : Bool) (h : List S122) (t : List S124) (m : List S126) (o' : Bool) (h' : List S122) (t' : List S124) (m' : List S126)
    (b1 : h.length ≤ 1048576) (b2 : t.length ≤ 1048576) (b3 : m.length ≤ 1048576) (l1 : h.length = h'.length) (l2 : t.length = t'.length) (l3 : m.length = m'.length) :
    From (fun k => spec_SameRoom.l0 k 0 o h t m o' h' t' m') (allM h h' && (allI t t' && allB m m')) := by
  obtain ⟨K3, e3⟩ := test_loopB (fun k i => spec_SameRoom.l2 k i o h t m o' h' t' m') m.length 0 (fun j => sameBan (m.getD j z126) (m'.getD j z126)) true (fun k i _ h0 h1 => by
      have h2 : i < (m'.length : Int) := by omega
      simp only [spec_SameRoom.l2, h0, h1, h2, if_true, wsucc h0 (by omega), sameBan, rd_T126]
      by_cases c0 : (m.getD i.toNat z126).f0 = (m'.getD i.toNat z126).f0 <;> by_cases c1 : (m.getD i.toNat z126).f1 = (m'.getD i.toNat z126).f1 <;> simp [c0, c1, -List.getD_eq_getElem?_getD]) (fun k hk => by simp only [spec_SameRoom.l2, Int.lt_irrefl, if_false])
  obtain ⟨K2, e2⟩ := test_loopB (fun k i => spec_SameRoom.l1 k i o h t m o' h' t' m') t.length K3 (fun j => sameInvite (t.getD j z124) (t'.getD j z124)) (allB m m') (fun k i _ h0 h1 => by
      have h2 : i < (t'.length : Int) := by omega
      simp only [spec_SameRoom.l1, h0, h1, h2, if_true, wsucc h0 (by omega), sameInvite, rd_T124]
      by_cases c0 : (t.getD i.toNat z124).f0 = (t'.getD i.toNat z124).f0 <;> by_cases c1 : (t.getD i.toNat z124).f1 = (t'.getD i.toNat z124).f1 <;> by_cases c2 : (t.getD i.toNat z124).f2 = (t'.getD i.toNat z124).f2 <;> simp [c0, c1, c2, -List.getD_eq_getElem?_getD]) (fun k hk => by
      simp only [spec_SameRoom.l1, Int.lt_irrefl, if_false]
      rw [e3 k hk, allB, Bool.and_true])
  obtain ⟨K1, e1⟩ := test_loopB (fun k i => spec_SameRoom.l0 k i o h t m o' h' t' m') h.length K2 (fun j => sameMember (h.getD j z122) (h'.getD j z122)) (allI t t' && allB m m') (fun k i _ h0 h1 => by
      have h2 : i < (h'.length : Int) := by omega
      simp only [spec_SameRoom.l0, h0, h1, h2, if_true, wsucc h0 (by omega), sameMember, rd_T122]
      by_cases c0 : (h.getD i.toNat z122).f0 = (h'.getD i.toNat z122).f0 <;> by_cases c1 : (h.getD i.toNat z122).f1 = (h'.getD i.toNat z122).f1 <;> by_cases c2 : (h.getD i.toNat z122).f2 = (h'.getD i.toNat z122).f2 <;> by_cases c3 : (h.getD i.toNat z122).f3 = (h'.getD i.toNat z122).f3 <;> simp [c0, c1, c2, c3, -List.getD_eq_getElem?_getD]) (fun k hk => by
      simp only [spec_SameRoom.l0, Int.lt_irrefl, if_false]
      rw [e2 k hk, allI])
  exact ⟨K1, fun k hk => e1 k hk⟩
theorem same_both (o : Bool) (h : List S122) (t : List S124) (m : List S126) (o' : Bool) (h' : List S122) (t' : List S124) (m' : List S126)
    (b1 : h.length ≤ 1048576) (b2 : t.length ≤ 1048576) (b3 : m.length ≤ 1048576) :
    ∃ r, From (fun k => spec_SameRoom.f k o h t m o' h' t' m') r ∧ From (fun k => impl_SameRoom.f k o h t m o' h' t' m') r := by
  obtain ⟨K4, e4⟩ := impl_Member_from h h' b1
  obtain ⟨K5, e5⟩ := impl_Invite_from t t' b2
  obtain ⟨K6, e6⟩ := impl_Ban_from m m' b3
  have j1 : ∀ k, spec_SameRoom.j0 (k + 1) true o h t m o' h' t' m' = some false := fun k => by simp [spec_SameRoom.j0]
  by_cases c0 : o = o'
  · have c0a : (o == o') = true := by simp [c0]
    have c0b : (o != o') = false := by simp [c0]
    by_cases l1 : h.length = h'.length
    · have l1i : (h.length : Int) = (h'.length : Int) := by omega
      by_cases l2 : t.length = t'.length
      · have l2i : (t.length : Int) = (t'.length : Int) := by omega
        by_cases l3 : m.length = m'.length
        · have l3i : ((m.length : Int) != (m'.length : Int)) = false := by simp; omega
          obtain ⟨K7, e7⟩ := spec_loops o h t m o' h' t' m' b1 b2 b3 l1 l2 l3
          refine ⟨allM h h' && (allI t t' && allB m m'), ⟨K7 + 1, fun k hk => ?_⟩, ⟨K4 + K5 + K6, fun k hk => ?_⟩⟩
          · obtain ⟨k, rfl⟩ : ∃ n, k = n + 1 := ⟨k - 1, by omega⟩
            simp only [spec_SameRoom.f, c0b, l1i, l2i, l3i, if_true, Bool.false_eq_true, if_false, spec_SameRoom.j0]
            exact e7 k (by omega)
          · simp only [impl_SameRoom.f, c0a, e4 k (by omega), e5 k (by omega), e6 k (by omega), Option.bind_some, if_true, l1, l2, l3, decide_true, Bool.true_and]
            rw [← l1, ← l2, ← l3]
            show (if allM h h' = true then if allI t t' = true then some (allB m m') else some false else some false) = _
            cases allM h h' <;> cases allI t t' <;> simp
        · have l3i : ((m.length : Int) != (m'.length : Int)) = true := by simp; omega
          refine ⟨false, ⟨1, fun k hk => ?_⟩, ⟨K4 + K5 + K6, fun k hk => ?_⟩⟩
          · obtain ⟨k, rfl⟩ : ∃ n, k = n + 1 := ⟨k - 1, by omega⟩
            simp only [spec_SameRoom.f, c0b, l1i, l2i, l3i, if_true, Bool.false_eq_true, if_false, j1]
          · simp only [impl_SameRoom.f, c0a, e4 k (by omega), e5 k (by omega), e6 k (by omega), Option.bind_some, if_true, l3, decide_false, Bool.false_and]
            split
            · split <;> rfl
            · rfl
      · have l2i : ¬ (t.length : Int) = (t'.length : Int) := by omega
        refine ⟨false, ⟨1, fun k hk => ?_⟩, ⟨K4 + K5 + K6, fun k hk => ?_⟩⟩
        · obtain ⟨k, rfl⟩ : ∃ n, k = n + 1 := ⟨k - 1, by omega⟩
          simp only [spec_SameRoom.f, c0b, l1i, l2i, if_true, Bool.false_eq_true, if_false, j1]
        · simp only [impl_SameRoom.f, c0a, e4 k (by omega), e5 k (by omega), e6 k (by omega), Option.bind_some, if_true, l2, decide_false, Bool.false_and, Bool.false_eq_true, if_false]
          split <;> rfl
    · have l1i : ¬ (h.length : Int) = (h'.length : Int) := by omega
      refine ⟨false, ⟨1, fun k hk => ?_⟩, ⟨K4 + K5 + K6, fun k hk => ?_⟩⟩
      · obtain ⟨k, rfl⟩ : ∃ n, k = n + 1 := ⟨k - 1, by omega⟩
        simp only [spec_SameRoom.f, c0b, l1i, Bool.false_eq_true, if_false, j1]
      · simp only [impl_SameRoom.f, c0a, e4 k (by omega), Option.bind_some, if_true, l1, decide_false, Bool.false_and, Bool.false_eq_true, if_false]
  · have c0a : (o == o') = false := by simp [c0]
    have c0b : (o != o') = true := by simp [c0]
    refine ⟨false, ⟨1, fun k hk => ?_⟩, ⟨0, fun k hk => ?_⟩⟩
    · obtain ⟨k, rfl⟩ : ∃ n, k = n + 1 := ⟨k - 1, by omega⟩
      simp only [spec_SameRoom.f, c0b, if_true, j1]
    · simp only [impl_SameRoom.f, c0a, Bool.false_eq_true, if_false]
theorem FnExactSameRoom : laws_FnExactSameRoom.Pure := by
  intro o h t m o' h' t' m' ⟨h1, _⟩ ⟨h2, _⟩ ⟨h3, _⟩ ⟨h1', _⟩ ⟨h2', _⟩ ⟨h3', _⟩
  obtain ⟨s, hs, hc⟩ := szRoom_tells o h t m 1048576 (by omega) (by omega) h1 h2 h3
  rcases hc with hc | ⟨b1, b2, b3, b4, b5⟩
  · exact ⟨0, by simp only [laws_FnExactSameRoom.f, hs, Option.bind_some, hc, if_true]⟩
  have hn : ¬ s < 0 := by omega
  obtain ⟨s', hs', hc'⟩ := szRoom_tells o' h' t' m' s (by omega) (by omega) h1' h2' h3'
  rcases hc' with hc' | ⟨d1, d2, d3, d4, d5⟩
  · exact ⟨1, by simp only [laws_FnExactSameRoom.f, laws_FnExactSameRoom.j0, hs, hn, hs', Option.bind_some, hc', if_true, if_false]⟩
  have hn' : ¬ s' < 0 := by omega
  obtain ⟨K1, e1⟩ := toRoom_from o h t m b1 b2 b3
  obtain ⟨K2, e2⟩ := toRoom_from o' h' t' m' d1 d2 d3
  obtain ⟨K3, e3⟩ := eqRoom_from o (h.map convMember) (t.map convInvite) (m.map convBan) (by simpa using b1) (by simpa using b2) (by simpa using b3)
  obtain ⟨K4, e4⟩ := eqRoom_from o' (h'.map convMember) (t'.map convInvite) (m'.map convBan) (by simpa using d1) (by simpa using d2) (by simpa using d3)
  obtain ⟨r, ⟨K5, e5⟩, ⟨K6, e6⟩⟩ := same_both o (h.map convMember) (t.map convInvite) (m.map convBan) o' (h'.map convMember) (t'.map convInvite) (m'.map convBan) (by simpa using b1) (by simpa using b2) (by simpa using b3)
  generalize hK : K1 + K2 + K3 + K4 + K5 + K6 = K
  refine ⟨K + 9, ?_⟩
  simp (disch := omega) only [laws_FnExactSameRoom.f, laws_FnExactSameRoom.j0, laws_FnExactSameRoom.j1, laws_FnExactSameRoom.j2, laws_FnExactSameRoom.j3, hs, hn, hs', hn', e1, e2, e3, e4, e5, e6, Option.bind_some, if_true, if_false]
  simp

end Go.Proofs.Ytaafhggihebicaa.Pure
