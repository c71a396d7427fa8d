/- The program's DigestOf returns what the reference's returns, for every text of up to 1 MiB. -/
import Derived.Test.YtopdflppdpmblaaXFnExactDigestOfx2
import Derived.Test.YtopdflppdpmblaaXP
namespace Go.Proofs.Ytopdflppdpmblaa.Pure
open Go.RowKit Go.Proofs.Ytopdflppdpmblaa.XFnExactDigestOf Go.Proofs.YtopdflppdpmblaaW.PrintWords Go.Proofs.YtopdflppdpmblaaW.PrintLast Go.Proofs.Ytopdflppdpmblaa.XP Go.Proofs.Ytopdflppdpmblaa.XP
set_option linter.unusedVariables false
set_option linter.unusedSimpArgs false

theorem w64 (x : Int) (h0 : 0 ≤ x) (h1 : x < 9223372036854775808) : wrap64 x = x := by unfold wrap64; omega
theorem tmodN (m : Nat) : Int.tmod (m : Int) 8 = ((m % 8 : Nat) : Int) := by
  rw [Int.tmod_eq_emod_of_nonneg (by omega)]; omega
theorem dig_word0 (n j : Nat) (hj : j < 8) (hn : n ≤ 1099511627776) : Int.tmod (wrap64 ((wrap64 (2654435769 * (wrap64 ((j : Int) + 1)))) + (n : Int))) 4294967296 = wd0 n j := by
  rw [w64 ((j : Int) + 1) (by omega) (by omega), w64 (2654435769 * _) (by omega) (by omega), w64 _ (by omega) (by omega), Int.tmod_eq_emod_of_nonneg (by omega)]; rfl
theorem dig_l0 (s : ByteArray) (hs : s.size ≤ 1099511627776) : ∀ (d j : Nat), j + d = 8 → ∀ k, spec_l01Digest.l0 (k + d + 1) s ((List.range j).map (wd0 s.size)) (j : Int) = spec_l01Digest.l1 k s ((List.range 8).map (wd0 s.size)) 0
  | 0, j, h, k => by
    obtain rfl : j = 8 := by omega
    rw [spec_l01Digest.l0, if_neg (by omega)]
  | d + 1, j, h, k => by
    have ih := dig_l0 s hs d (j + 1) (by omega) k
    rw [show k + (d + 1) + 1 = (k + d + 1) + 1 by omega, spec_l01Digest.l0, if_pos (by omega), if_pos (by simp; omega), dig_word0 _ _ (by omega) hs, wsucc (by omega) (by omega)]
    rw [List.range_succ, List.map_append] at ih
    exact ih
theorem dig_turn (ws : List Int) (h32 : ∀ x ∈ ws, 0 ≤ x ∧ x < 4294967296) (k : Nat) (b : Int) (hb0 : 0 ≤ b) (hb : b ≤ 255) :
    ws.set (((k % 8 : Nat) : Int)).toNat (Int.tmod (wrap64 (16777619 * (Int.tmod (wrap64 ((wrap64 ((rd ws ((k % 8 : Nat) : Int)) + b)) + (rd ws (((k % 8 + 7) % 8 : Nat) : Int)))) 4294967296))) 4294967296) = turn ws k b := by
  have hg : ∀ j : Nat, 0 ≤ ws.getD j 0 ∧ ws.getD j 0 < 4294967296 := by
    intro j
    rw [List.getD_eq_getElem?_getD]
    by_cases hj : j < ws.length
    · rw [List.getElem?_eq_getElem hj]; exact h32 _ (List.getElem_mem hj)
    · rw [List.getElem?_eq_none (by omega)]; simp
  have h1 := hg (k % 8)
  have h2 := hg ((k % 8 + 7) % 8)
  unfold turn mixV
  simp only [rd, Int.toNat_natCast]
  generalize ws.getD (k % 8) 0 = x at *
  generalize ws.getD ((k % 8 + 7) % 8) 0 = y at *
  congr 1
  rw [w64 (x + b) (by omega) (by omega), w64 (x + b + y) (by omega) (by omega), Int.tmod_eq_emod_of_nonneg (show 0 ≤ x + b + y by omega), w64 _ (by omega) (by omega), Int.tmod_eq_emod_of_nonneg (by omega)]
theorem turn_len (ws : List Int) (k : Nat) (b : Int) : (turn ws k b).length = ws.length := by simp [turn]
theorem st1_len (n k : Nat) : (st1 n k).length = 8 := by simp [st1]
theorem st2_len (s : ByteArray) : ∀ k, (st2 s k).length = 8
  | 0 => st1_len _ _
  | k + 1 => by rw [st2_succ, turn_len]; exact st2_len s k
theorem st3_len (s : ByteArray) : ∀ k, (st3 s k).length = 8
  | 0 => st2_len _ _
  | k + 1 => by rw [st3_succ, turn_len]; exact st3_len s k
theorem bt_255 (s : ByteArray) (i : Int) : 0 ≤ bt s i ∧ bt s i ≤ 255 := by
  unfold bt
  split
  · have := (s[i.toNat]).toNat_lt; omega
  · omega
theorem dig_step2 (s : ByteArray) (hs : s.size ≤ 1099511627776) (i : Nat) (hi : i < s.size) (k : Nat) : spec_l01Digest.l1 (k + 1) s (st2 s i) (i : Int) = spec_l01Digest.l1 k s (st2 s (i + 1)) ((i + 1 : Nat) : Int) := by
  have hl := st2_len s i
  have hb := bt_255 s i
  rw [spec_l01Digest.l1, w64 ((s.size : Int) + 24) (by omega) (by omega), if_pos (by omega), if_pos (by omega), if_pos (by omega)]
  rw [tmodN, if_pos (by omega), if_pos (by omega), w64 (((i % 8 : Nat) : Int) + 7) (by omega) (by omega), show (((i % 8 : Nat) : Int) + 7) = ((i % 8 + 7 : Nat) : Int) from rfl, tmodN, if_pos (by omega), if_pos (by omega), w64 (bt s i) (by omega) (by omega)]
  rw [dig_turn _ (st2_32 s i) i _ hb.1 hb.2, wsucc (by omega) (by omega), st2_succ]
  rfl
theorem dig_step3 (s : ByteArray) (hs : s.size ≤ 1099511627776) (i : Nat) (hi : i < 24) (k : Nat) : spec_l01Digest.l1 (k + 1) s (st3 s i) ((s.size + i : Nat) : Int) = spec_l01Digest.l1 k s (st3 s (i + 1)) ((s.size + (i + 1) : Nat) : Int) := by
  have hl := st3_len s i
  rw [spec_l01Digest.l1, w64 ((s.size : Int) + 24) (by omega) (by omega), if_pos (by omega), if_neg (by omega), w64 (((s.size + i : Nat) : Int) - (s.size : Int)) (by omega) (by omega), show ((s.size + i : Nat) : Int) - (s.size : Int) = (i : Int) by omega]
  rw [tmodN, if_pos (by omega), if_pos (by omega), w64 (((i % 8 : Nat) : Int) + 7) (by omega) (by omega), show (((i % 8 : Nat) : Int) + 7) = ((i % 8 + 7 : Nat) : Int) from rfl, tmodN, if_pos (by omega), if_pos (by omega)]
  rw [dig_turn _ (st3_32 s i) i _ (by omega) (by omega), wsucc (by omega) (by omega), st3_succ]
  rfl
theorem dig_l1a (s : ByteArray) (hs : s.size ≤ 1099511627776) : ∀ (d i : Nat), i + d = s.size → ∀ k, spec_l01Digest.l1 (k + d) s (st2 s i) (i : Int) = spec_l01Digest.l1 k s (st2 s s.size) (s.size : Int)
  | 0, i, h, k => by
    obtain rfl : i = s.size := by omega
    rfl
  | d + 1, i, h, k => by
    rw [show k + (d + 1) = (k + d) + 1 by omega, dig_step2 s hs i (by omega)]
    exact dig_l1a s hs d (i + 1) (by omega) k
theorem dig_l1b (s : ByteArray) (hs : s.size ≤ 1099511627776) : ∀ (d i : Nat), i + d = 24 → ∀ k, spec_l01Digest.l1 (k + d) s (st3 s i) ((s.size + i : Nat) : Int) = spec_l01Digest.l1 k s (st3 s 24) ((s.size + 24 : Nat) : Int)
  | 0, i, h, k => by
    obtain rfl : i = 24 := by omega
    rfl
  | d + 1, i, h, k => by
    rw [show k + (d + 1) = (k + d) + 1 by omega, dig_step3 s hs i (by omega)]
    exact dig_l1b s hs d (i + 1) (by omega) k
theorem dig_word (x : Int) (h0 : 0 ≤ x) (h1 : x < 4294967296) : ([(wrap64 (Int.tdiv x 16777216)) % 256, (Int.tmod (wrap64 (Int.tdiv x 65536)) 256) % 256, (Int.tmod (wrap64 (Int.tdiv x 256)) 256) % 256, (Int.tmod x 256) % 256] : List Int) = wordB x := by
  unfold wordB
  rw [Int.tdiv_eq_ediv_of_nonneg h0, Int.tdiv_eq_ediv_of_nonneg h0, Int.tdiv_eq_ediv_of_nonneg h0, w64 _ (by omega) (by omega), w64 _ (by omega) (by omega), w64 _ (by omega) (by omega), Int.tmod_eq_emod_of_nonneg (by omega), Int.tmod_eq_emod_of_nonneg (by omega), Int.tmod_eq_emod_of_nonneg h0]
  simp only [Int.emod_emod]
theorem dig_l2 (zs : List Int) (hl : zs.length = 8) (h32 : ∀ x ∈ zs, 0 ≤ x ∧ x < 4294967296) : ∀ (d j : Nat), j + d = 8 → ∀ k, spec_l01Digest.l2 (k + d + 1) zs (outW zs j) (zs.length : Int) (j : Int) = some (strOfNums (outW zs 8))
  | 0, j, h, k => by
    obtain rfl : j = 8 := by omega
    rw [spec_l01Digest.l2, if_neg (by omega)]
  | d + 1, j, h, k => by
    have hj : j < zs.length := by omega
    have hx : 0 ≤ zs.getD j 0 ∧ zs.getD j 0 < 4294967296 := by
      rw [List.getD_eq_getElem?_getD, List.getElem?_eq_getElem hj]; exact h32 _ (List.getElem_mem hj)
    have hr : rd zs (j : Int) = zs.getD j 0 := by simp [rd]
    have ho := outW_len zs j
    rw [show k + (d + 1) + 1 = (k + d + 1) + 1 by omega, spec_l01Digest.l2, if_pos (by omega), if_pos (by omega), if_pos (by omega), hr, dig_word _ hx.1 hx.2, Option.bind_some, if_pos (by simp only [wordB, List.length_cons, List.length_nil]; omega), ← outW_succ zs j hj, wsucc (by omega) (by omega)]
    exact dig_l2 zs hl h32 d (j + 1) (by omega) k
def digS (s : ByteArray) : ByteArray := strOfNums (outW (st3 s 24) 8)
theorem digest_spec (s : ByteArray) (hs : s.size ≤ 1099511627776) (k : Nat) (hk : s.size + 60 ≤ k) : spec_l01Digest.f k s = some (digS s) := by
  obtain ⟨n, rfl⟩ : ∃ n, k = (((n + 8 + 1 + 1) + 24) + s.size) + 8 + 1 := ⟨k - s.size - 43, by omega⟩
  have a := dig_l0 s hs 8 0 rfl (((n + 8 + 1 + 1) + 24) + s.size)
  have b := dig_l1a s hs s.size 0 (by omega) ((n + 8 + 1 + 1) + 24)
  have c := dig_l1b s hs 24 0 rfl (n + 8 + 1 + 1)
  have e := dig_l2 (st3 s 24) (st3_len s 24) (st3_32 s 24) 8 0 rfl n
  have f1 : (List.range 8).map (wd0 s.size) = st2 s 0 := by
    show _ = st1 s.size 8
    unfold st1
    apply List.map_congr_left
    intro j hj
    rw [if_pos (List.mem_range.1 hj)]
  unfold spec_l01Digest.f
  refine a.trans ?_
  rw [f1]
  refine b.trans (c.trans ?_)
  rw [spec_l01Digest.l1, w64 ((s.size : Int) + 24) (by omega) (by omega), if_neg (by omega)]
  exact e
theorem digest_impl (s : ByteArray) (hs : s.size ≤ 1099511627776) : impl_digestOf.f s = some (digS s) := by
  unfold impl_digestOf.f
  rw [if_pos hs]
  rfl
theorem strOfNums_size : ∀ xs : List Int, (strOfNums xs).size = xs.length := by
  intro xs
  show (List.map (fun n : Int => UInt8.ofNat n.toNat) xs).toArray.size = _
  simp
theorem digS_size (s : ByteArray) : (digS s).size ≤ 32 := by
  unfold digS
  rw [strOfNums_size]
  exact outW_len _ 8
theorem FnExactDigestOf : laws_FnExactDigestOf.Pure := fun s _ => by
  by_cases hs : (s.size : Int) > 1048576
  · exact ⟨0, by unfold laws_FnExactDigestOf.f; rw [if_pos hs]⟩
  · refine ⟨s.size + 61, ?_⟩
    unfold laws_FnExactDigestOf.f
    rw [if_neg hs, laws_FnExactDigestOf.j0]
    unfold spec_DigestOf.f impl_DigestOf.f
    rw [digest_spec s (by omega) _ (Nat.le_refl _), digest_impl s (by omega)]
    by_cases h4 : (s.size : Int) > 4000
    · simp only [h4, if_true, Option.bind_some]
      simp
    · simp only [h4, if_false, Option.bind_some]
      simp

end Go.Proofs.Ytopdflppdpmblaa.Pure
