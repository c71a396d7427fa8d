/- The program's ChainOf returns what the reference's returns, for every text and every list of texts that can be read. -/
import Derived.Test.YtopdflppdpmblaaXFnExactChainOfx4
import Derived.Test.YtopdflppdpmblaaXP
namespace Go.Proofs.Ytopdflppdpmblaa.Pure
open Go.RowKit Go.Proofs.Ytopdflppdpmblaa.XFnExactChainOf Go.Proofs.YtopdflppdpmblaaW.PrintWords Go.Proofs.YtopdflppdpmblaaW.PrintLast Go.Proofs.Ytopdflppdpmblaa.XP Go.Proofs.Ytopdflppdpmblaa.XP
set_option linter.unusedVariables false
set_option linter.unusedSimpArgs false

theorem strOf_one (v : Int) : (strOfNums [v]).size = 1 := rfl
theorem markText_rounds : ∀ (m : Nat) (x : Int) (s : ByteArray), 0 ≤ x → x.toNat ≤ m → s.size + m ≤ 4611686018427387904 → ∃ r, ∀ k, m < k → laws_markText.l0 k x s = some r := by
  intro m
  induction m with
  | zero =>
    intro x s h0 h1 h2
    have hx : ¬ x > 0 := by omega
    have hs : 1 + s.size ≤ 9223372036854775807 := by omega
    refine ⟨(⟨#[109]⟩ : ByteArray) ++ s, fun k hk => ?_⟩
    obtain ⟨k, rfl⟩ : ∃ n, k = n + 1 := ⟨k - 1, by omega⟩
    simp only [laws_markText.l0, hx, hs, if_true, if_false]
  | succ m ih =>
    intro x s h0 h1 h2
    by_cases hx : x > 0
    · have hd : Int.tdiv x 10 = x / 10 := Int.tdiv_eq_ediv_of_nonneg h0
      have hw : wrap64 (Int.tdiv x 10) = x / 10 := by rw [hd]; exact w64 (by omega) (by omega)
      have hz : (strOfNums [(wrap64 (48 + (Int.tmod x 10))) % 256]).size + s.size ≤ 9223372036854775807 := by rw [strOf_one]; omega
      obtain ⟨r, hr⟩ := ih (x / 10) ((strOfNums [(wrap64 (48 + (Int.tmod x 10))) % 256]) ++ s) (by omega) (by omega) (by rw [ByteArray.size_append, strOf_one]; omega)
      refine ⟨r, fun k hk => ?_⟩
      obtain ⟨k, rfl⟩ : ∃ n, k = n + 1 := ⟨k - 1, by omega⟩
      simp only [laws_markText.l0, hx, if_true, Option.bind_some, hz, hw]
      exact hr k (by omega)
    · have hs : 1 + s.size ≤ 9223372036854775807 := by omega
      refine ⟨(⟨#[109]⟩ : ByteArray) ++ s, fun k hk => ?_⟩
      obtain ⟨k, rfl⟩ : ∃ n, k = n + 1 := ⟨k - 1, by omega⟩
      simp only [laws_markText.l0, hx, hs, if_true, if_false]
theorem markText_from (x : Int) (h0 : 0 ≤ x) (h : x ≤ 1099511627776000) : ∃ s, From (fun k => laws_markText.f k x) s := by
  by_cases hx : x ≤ 0
  · exact ⟨(⟨#[109, 48]⟩ : ByteArray), from_now fun k => by simp only [laws_markText.f, hx, if_true]⟩
  · obtain ⟨r, hr⟩ := markText_rounds x.toNat x (⟨#[]⟩ : ByteArray) h0 (Nat.le_refl _) (by show 0 + x.toNat ≤ _; omega)
    exact ⟨r, x.toNat + 1, fun k hk => by simp only [laws_markText.f, hx, if_false]; exact hr k (by omega)⟩
theorem eqStringS_from (l : List ByteArray) (h : l.length ≤ 1073741824) : From (fun k => laws_eqStringS.f k l l) true := by
  obtain ⟨K, hK⟩ := all_loop (fun k i => laws_eqStringS.l0 k l l i) l.length (by omega) 0 true (fun k i _ h0 h1 => by
      simp only [laws_eqStringS.l0, h0, h1, if_true, wsucc h0 (by omega)]) (fun k i _ h _ => by simp only [laws_eqStringS.l0, h, if_false])
  refine ⟨K, fun k hk => ?_⟩
  simp only [laws_eqStringS.f, if_true]
  exact hK k hk
theorem markText_fun : ∃ (mt : Int → ByteArray) (C : Nat), ∀ x : Int, 0 ≤ x → x ≤ 2097152 → ∀ k, C ≤ k → laws_markText.f k x = some (mt x) := by
  have h : ∀ x : Int, ∃ s : ByteArray, 0 ≤ x → x ≤ 2097152 → ∀ k, 2097153 ≤ k → laws_markText.f k x = some s := by
    intro x
    by_cases h0 : 0 ≤ x
    · by_cases h1 : x ≤ 2097152
      · by_cases hx : x ≤ 0
        · exact ⟨(⟨#[109, 48]⟩ : ByteArray), fun _ _ k _ => by simp only [laws_markText.f, hx, if_true]⟩
        · obtain ⟨r, hr⟩ := markText_rounds x.toNat x (⟨#[]⟩ : ByteArray) h0 (Nat.le_refl _) (by show 0 + x.toNat ≤ _; omega)
          exact ⟨r, fun _ _ k hk => by simp only [laws_markText.f, hx, if_false]; exact hr k (by omega)⟩
      · exact ⟨ByteArray.empty, fun _ h => absurd h h1⟩
    · exact ⟨ByteArray.empty, fun h => absurd h h0⟩
  exact ⟨fun x => Classical.choose (h x), 2097153, fun x => Classical.choose_spec (h x)⟩
theorem strs_law (l : List ByteArray) (h : l.length ≤ 1048576) : ∃ ys : List ByteArray, From (fun k => laws_markStringS.f k l 1) (1 + l.length, ys) ∧ From (fun k => laws_heldStringS.f k ys 1) (1 + l.length) := by
  obtain ⟨mt, C, hmt⟩ := markText_fun
  obtain ⟨ys, ⟨K, hK⟩, hl, hy⟩ := mark_allB 2097152 (by omega) (F := fun k xs m i => laws_markStringS.l0 (k + C) xs m i) 1 (by omega) (by omega) mt (fun k xs m i h0 h1 h2 h3 h4 => by
      simp only [show k + 1 + C = (k + C) + 1 by omega, laws_markStringS.l0, h0, h1, if_true, hmt m h3 (by omega) (k + C) (by omega), Option.bind_some, wsucc h0 h2, wsucc h3 (by omega)]) (fun k xs m i h => by
      simp only [show k + 1 + C = (k + C) + 1 by omega, laws_markStringS.l0, h, if_false]) l 1 (by omega) (by omega) (by omega)
  refine ⟨ys, ⟨K + C, fun k hk => ?_⟩, ?_⟩
  · obtain ⟨k, rfl⟩ : ∃ n, k = n + C := ⟨k - C, by omega⟩
    have := hK k (by omega)
    simpa [laws_markStringS.f] using this
  · obtain ⟨L, hL⟩ := all_loop (fun k i => laws_heldStringS.l0 k ys (1 + i) i) ys.length (by omega) C (1 + (ys.length : Int)) (fun k i hk h0 h1 => by
      have hr : rdOf ByteArray.empty ys i = mt (1 + i) := by
        have := hy i.toNat (by omega)
        rw [rdOf, getD_of this]; congr 1; omega
      simp only [laws_heldStringS.l0, h0, h1, if_true, hr, hmt (1 + i) (by omega) (by omega) k hk, Option.bind_some, wsucc h0 (by omega), wsucc (show 0 ≤ 1 + i by omega) (by omega)]
      congr 1; omega) (fun k i _ h he => by subst he; simp only [laws_heldStringS.l0, h, if_false])
    refine ⟨L, fun k hk => ?_⟩
    have := hL k hk
    rw [hl] at this
    simpa [laws_heldStringS.f] using this
theorem w64x (x : Int) (h0 : 0 ≤ x) (h1 : x < 9223372036854775808) : wrap64 x = x := by unfold wrap64; omega
theorem tmodN (m : Nat) : Int.tmod (m : Int) 8 = ((m % 8 : Nat) : Int) := by
  rw [Int.tmod_eq_emod_of_nonneg (by omega)]; omega
theorem dig_word0 (n j : Nat) (hj : j < 8) (hn : n ≤ 1099511627776) : Int.tmod (wrap64 ((wrap64 (2654435769 * (wrap64 ((j : Int) + 1)))) + (n : Int))) 4294967296 = wd0 n j := by
  rw [w64x ((j : Int) + 1) (by omega) (by omega), w64x (2654435769 * _) (by omega) (by omega), w64x _ (by omega) (by omega), Int.tmod_eq_emod_of_nonneg (by omega)]; rfl
theorem dig_l0 (s : ByteArray) (hs : s.size ≤ 1099511627776) : ∀ (d j : Nat), j + d = 8 → ∀ k, spec_l01Digest.l0 (k + d + 1) s ((List.range j).map (wd0 s.size)) (j : Int) = spec_l01Digest.l1 k s ((List.range 8).map (wd0 s.size)) 0
  | 0, j, h, k => by
    obtain rfl : j = 8 := by omega
    rw [spec_l01Digest.l0, if_neg (by omega)]
  | d + 1, j, h, k => by
    have ih := dig_l0 s hs d (j + 1) (by omega) k
    rw [show k + (d + 1) + 1 = (k + d + 1) + 1 by omega, spec_l01Digest.l0, if_pos (by omega), if_pos (by simp; omega), dig_word0 _ _ (by omega) hs, wsucc (by omega) (by omega)]
    rw [List.range_succ, List.map_append] at ih
    exact ih
theorem dig_turn (ws : List Int) (h32 : ∀ x ∈ ws, 0 ≤ x ∧ x < 4294967296) (k : Nat) (b : Int) (hb0 : 0 ≤ b) (hb : b ≤ 255) :
    ws.set (((k % 8 : Nat) : Int)).toNat (Int.tmod (wrap64 (16777619 * (Int.tmod (wrap64 ((wrap64 ((rd ws ((k % 8 : Nat) : Int)) + b)) + (rd ws (((k % 8 + 7) % 8 : Nat) : Int)))) 4294967296))) 4294967296) = turn ws k b := by
  have hg : ∀ j : Nat, 0 ≤ ws.getD j 0 ∧ ws.getD j 0 < 4294967296 := by
    intro j
    rw [List.getD_eq_getElem?_getD]
    by_cases hj : j < ws.length
    · rw [List.getElem?_eq_getElem hj]; exact h32 _ (List.getElem_mem hj)
    · rw [List.getElem?_eq_none (by omega)]; simp
  have h1 := hg (k % 8)
  have h2 := hg ((k % 8 + 7) % 8)
  unfold turn mixV
  simp only [rd, Int.toNat_natCast]
  generalize ws.getD (k % 8) 0 = x at *
  generalize ws.getD ((k % 8 + 7) % 8) 0 = y at *
  congr 1
  rw [w64x (x + b) (by omega) (by omega), w64x (x + b + y) (by omega) (by omega), Int.tmod_eq_emod_of_nonneg (show 0 ≤ x + b + y by omega), w64x _ (by omega) (by omega), Int.tmod_eq_emod_of_nonneg (by omega)]
theorem turn_len (ws : List Int) (k : Nat) (b : Int) : (turn ws k b).length = ws.length := by simp [turn]
theorem st1_len (n k : Nat) : (st1 n k).length = 8 := by simp [st1]
theorem st2_len (s : ByteArray) : ∀ k, (st2 s k).length = 8
  | 0 => st1_len _ _
  | k + 1 => by rw [st2_succ, turn_len]; exact st2_len s k
theorem st3_len (s : ByteArray) : ∀ k, (st3 s k).length = 8
  | 0 => st2_len _ _
  | k + 1 => by rw [st3_succ, turn_len]; exact st3_len s k
theorem bt_255 (s : ByteArray) (i : Int) : 0 ≤ bt s i ∧ bt s i ≤ 255 := by
  unfold bt
  split
  · have := (s[i.toNat]).toNat_lt; omega
  · omega
theorem dig_step2 (s : ByteArray) (hs : s.size ≤ 1099511627776) (i : Nat) (hi : i < s.size) (k : Nat) : spec_l01Digest.l1 (k + 1) s (st2 s i) (i : Int) = spec_l01Digest.l1 k s (st2 s (i + 1)) ((i + 1 : Nat) : Int) := by
  have hl := st2_len s i
  have hb := bt_255 s i
  rw [spec_l01Digest.l1, w64x ((s.size : Int) + 24) (by omega) (by omega), if_pos (by omega), if_pos (by omega), if_pos (by omega)]
  rw [tmodN, if_pos (by omega), if_pos (by omega), w64x (((i % 8 : Nat) : Int) + 7) (by omega) (by omega), show (((i % 8 : Nat) : Int) + 7) = ((i % 8 + 7 : Nat) : Int) from rfl, tmodN, if_pos (by omega), if_pos (by omega), w64x (bt s i) (by omega) (by omega)]
  rw [dig_turn _ (st2_32 s i) i _ hb.1 hb.2, wsucc (by omega) (by omega), st2_succ]
  rfl
theorem dig_step3 (s : ByteArray) (hs : s.size ≤ 1099511627776) (i : Nat) (hi : i < 24) (k : Nat) : spec_l01Digest.l1 (k + 1) s (st3 s i) ((s.size + i : Nat) : Int) = spec_l01Digest.l1 k s (st3 s (i + 1)) ((s.size + (i + 1) : Nat) : Int) := by
  have hl := st3_len s i
  rw [spec_l01Digest.l1, w64x ((s.size : Int) + 24) (by omega) (by omega), if_pos (by omega), if_neg (by omega), w64x (((s.size + i : Nat) : Int) - (s.size : Int)) (by omega) (by omega), show ((s.size + i : Nat) : Int) - (s.size : Int) = (i : Int) by omega]
  rw [tmodN, if_pos (by omega), if_pos (by omega), w64x (((i % 8 : Nat) : Int) + 7) (by omega) (by omega), show (((i % 8 : Nat) : Int) + 7) = ((i % 8 + 7 : Nat) : Int) from rfl, tmodN, if_pos (by omega), if_pos (by omega)]
  rw [dig_turn _ (st3_32 s i) i _ (by omega) (by omega), wsucc (by omega) (by omega), st3_succ]
  rfl
theorem dig_l1a (s : ByteArray) (hs : s.size ≤ 1099511627776) : ∀ (d i : Nat), i + d = s.size → ∀ k, spec_l01Digest.l1 (k + d) s (st2 s i) (i : Int) = spec_l01Digest.l1 k s (st2 s s.size) (s.size : Int)
  | 0, i, h, k => by
    obtain rfl : i = s.size := by omega
    rfl
  | d + 1, i, h, k => by
    rw [show k + (d + 1) = (k + d) + 1 by omega, dig_step2 s hs i (by omega)]
    exact dig_l1a s hs d (i + 1) (by omega) k
theorem dig_l1b (s : ByteArray) (hs : s.size ≤ 1099511627776) : ∀ (d i : Nat), i + d = 24 → ∀ k, spec_l01Digest.l1 (k + d) s (st3 s i) ((s.size + i : Nat) : Int) = spec_l01Digest.l1 k s (st3 s 24) ((s.size + 24 : Nat) : Int)
  | 0, i, h, k => by
    obtain rfl : i = 24 := by omega
    rfl
  | d + 1, i, h, k => by
    rw [show k + (d + 1) = (k + d) + 1 by omega, dig_step3 s hs i (by omega)]
    exact dig_l1b s hs d (i + 1) (by omega) k
theorem dig_word (x : Int) (h0 : 0 ≤ x) (h1 : x < 4294967296) : ([(wrap64 (Int.tdiv x 16777216)) % 256, (Int.tmod (wrap64 (Int.tdiv x 65536)) 256) % 256, (Int.tmod (wrap64 (Int.tdiv x 256)) 256) % 256, (Int.tmod x 256) % 256] : List Int) = wordB x := by
  unfold wordB
  rw [Int.tdiv_eq_ediv_of_nonneg h0, Int.tdiv_eq_ediv_of_nonneg h0, Int.tdiv_eq_ediv_of_nonneg h0, w64x _ (by omega) (by omega), w64x _ (by omega) (by omega), w64x _ (by omega) (by omega), Int.tmod_eq_emod_of_nonneg (by omega), Int.tmod_eq_emod_of_nonneg (by omega), Int.tmod_eq_emod_of_nonneg h0]
  simp only [Int.emod_emod]
theorem dig_l2 (zs : List Int) (hl : zs.length = 8) (h32 : ∀ x ∈ zs, 0 ≤ x ∧ x < 4294967296) : ∀ (d j : Nat), j + d = 8 → ∀ k, spec_l01Digest.l2 (k + d + 1) zs (outW zs j) (zs.length : Int) (j : Int) = some (strOfNums (outW zs 8))
  | 0, j, h, k => by
    obtain rfl : j = 8 := by omega
    rw [spec_l01Digest.l2, if_neg (by omega)]
  | d + 1, j, h, k => by
    have hj : j < zs.length := by omega
    have hx : 0 ≤ zs.getD j 0 ∧ zs.getD j 0 < 4294967296 := by
      rw [List.getD_eq_getElem?_getD, List.getElem?_eq_getElem hj]; exact h32 _ (List.getElem_mem hj)
    have hr : rd zs (j : Int) = zs.getD j 0 := by simp [rd]
    have ho := outW_len zs j
    rw [show k + (d + 1) + 1 = (k + d + 1) + 1 by omega, spec_l01Digest.l2, if_pos (by omega), if_pos (by omega), if_pos (by omega), hr, dig_word _ hx.1 hx.2, Option.bind_some, if_pos (by simp only [wordB, List.length_cons, List.length_nil]; omega), ← outW_succ zs j hj, wsucc (by omega) (by omega)]
    exact dig_l2 zs hl h32 d (j + 1) (by omega) k
def digS (s : ByteArray) : ByteArray := strOfNums (outW (st3 s 24) 8)
theorem digest_spec (s : ByteArray) (hs : s.size ≤ 1099511627776) (k : Nat) (hk : s.size + 60 ≤ k) : spec_l01Digest.f k s = some (digS s) := by
  obtain ⟨n, rfl⟩ : ∃ n, k = (((n + 8 + 1 + 1) + 24) + s.size) + 8 + 1 := ⟨k - s.size - 43, by omega⟩
  have a := dig_l0 s hs 8 0 rfl (((n + 8 + 1 + 1) + 24) + s.size)
  have b := dig_l1a s hs s.size 0 (by omega) ((n + 8 + 1 + 1) + 24)
  have c := dig_l1b s hs 24 0 rfl (n + 8 + 1 + 1)
  have e := dig_l2 (st3 s 24) (st3_len s 24) (st3_32 s 24) 8 0 rfl n
  have f1 : (List.range 8).map (wd0 s.size) = st2 s 0 := by
    show _ = st1 s.size 8
    unfold st1
    apply List.map_congr_left
    intro j hj
    rw [if_pos (List.mem_range.1 hj)]
  unfold spec_l01Digest.f
  refine a.trans ?_
  rw [f1]
  refine b.trans (c.trans ?_)
  rw [spec_l01Digest.l1, w64x ((s.size : Int) + 24) (by omega) (by omega), if_neg (by omega)]
  exact e
theorem digest_impl (s : ByteArray) (hs : s.size ≤ 1099511627776) : impl_digestOf.f s = some (digS s) := by
  unfold impl_digestOf.f
  rw [if_pos hs]
  rfl
theorem strOfNums_size : ∀ xs : List Int, (strOfNums xs).size = xs.length := by
  intro xs
  show (List.map (fun n : Int => UInt8.ofNat n.toNat) xs).toArray.size = _
  simp
theorem digS_size (s : ByteArray) : (digS s).size ≤ 32 := by
  unfold digS
  rw [strOfNums_size]
  exact outW_len _ 8
theorem toStringS_from (l : List ByteArray) (h : l.length ≤ 1048576) : From (fun k => laws_toStringS.f k l) l := by
  obtain ⟨K, hK⟩ := fill_all (F := laws_toStringS.l0) (fun s : ByteArray => s) ByteArray.empty (⟨#[]⟩ : ByteArray) (fun k xs ys i h0 h1 h2 h3 => by
      simp only [laws_toStringS.l0, h0, h1, h2, if_true, wsucc h0 h3, rdOf]) (fun k xs ys i h => by simp only [laws_toStringS.l0, h, if_false]) l (by omega)
  refine ⟨K, fun k hk => ?_⟩
  simp only [laws_toStringS.f, Int.toNat_natCast]
  rw [if_pos (by omega), if_pos (by omega)]
  have := hK k hk
  rwa [List.map_id'] at this
theorem sz_leS (n : Nat) (a : Int) (hl : n ≤ 9223372036854775807) (ha : 0 ≤ a) (ha2 : a ≤ 1048576) : wrap64 (a - (n : Int)) = a - n := w64 (by omega) (by omega)
theorem szStringS_tells (l : List ByteArray) (a : Int) (ha : 0 ≤ a) (ha2 : a ≤ 1048576) (h1 : l.length ≤ 9223372036854775807) (hq : ∀ y ∈ l, y.size ≤ 9223372036854775807) :
    ∃ r, From (fun k => laws_szStringS.f k l a) r ∧ (r < 0 ∨ (l.length ≤ 1048576 ∧ (∀ y ∈ l, y.size ≤ 1048576) ∧ 0 ≤ r ∧ r ≤ a)) := by
  unfold laws_szStringS.f
  rw [sz_leS l.length a h1 ha ha2]
  by_cases c1 : a - (l.length : Int) < 0
  · simp only [if_pos c1]; exact ⟨-1, from_now fun _ => rfl, .inl (by omega)⟩
  simp only [if_neg c1]
  obtain ⟨r, hr, h⟩ := pay_loop (F := fun k a i => laws_szStringS.l0 k l a i) l.length (fun j => (l.getD j ByteArray.empty).size ≤ 1048576) (fun a i h0 h2 h3 h4 => by
      have hm := getD_mem ByteArray.empty (show i.toNat < l.length by omega)
      have hz := sz_leS (l.getD i.toNat ByteArray.empty).size a (hq _ hm) h3 h4
      refine ⟨0, ?_⟩
      by_cases hc : a - ((l.getD i.toNat ByteArray.empty).size : Int) < 0
      · left; intro k _; simp only [laws_szStringS.l0, h0, h2, if_true, rdOf, hz, hc]
      · right; refine ⟨a - ((l.getD i.toNat ByteArray.empty).size : Int), by omega, by omega, by omega, fun k _ => ?_⟩
        simp only [laws_szStringS.l0, h0, h2, if_true, rdOf, hz, hc, if_false, wsucc h0 (by omega)]) (fun k a => by simp only [laws_szStringS.l0, Int.lt_irrefl, if_false]) (a - l.length) (by omega) (by omega)
  refine ⟨r, hr, h.imp id fun ⟨r0, r1, hj⟩ => ⟨by omega, fun y hy => ?_, r0, by omega⟩⟩
  obtain ⟨j, hj2, rfl⟩ := List.mem_iff_getElem.1 hy
  have := hj j hj2
  rwa [List.getD_eq_getElem?_getD, List.getElem?_eq_getElem hj2] at this
/-- The chain over the texts that are left. -/
def chainR : ByteArray → List ByteArray → List ByteArray → List ByteArray × Bool
  | _, out, [] => (out, true)
  | p, out, s :: r => if (s.size : Int) > 3968 then ([], false) else chainR (digS (p ++ s)) (out ++ [digS (p ++ s)]) r
theorem chainR_len : ∀ (l : List ByteArray) (p : ByteArray) (out : List ByteArray), (chainR p out l).1.length ≤ out.length + l.length
  | [], _, _ => by simp [chainR]
  | s :: r, p, out => by
    unfold chainR
    split
    · simp
    · have := chainR_len r (digS (p ++ s)) (out ++ [digS (p ++ s)])
      simp only [List.length_append, List.length_cons, List.length_nil] at *
      omega
theorem drop_rd (l : List ByteArray) (i : Nat) (hi : i < l.length) : l.drop i = rdOf ByteArray.empty l (i : Int) :: l.drop (i + 1) := by
  rw [List.drop_eq_getElem_cons hi]
  congr 1
  simp [rdOf, List.getElem?_eq_getElem hi]
theorem spec_chain (l : List ByteArray) (hl : l.length ≤ 300) : ∀ (d i : Nat), i + d = l.length → ∀ (p : ByteArray) (out : List ByteArray), p.size ≤ 32 → out.length = i → ∀ k, 5000 ≤ k → spec_ChainOf.l0 (k + d + 1) l out p (l.length : Int) (i : Int) = some (chainR p out (l.drop i))
  | 0, i, h, p, out, hp, ho, k, hk => by
    rw [spec_ChainOf.l0, if_neg (by omega), List.drop_eq_nil_of_le (by omega)]
    rfl
  | d + 1, i, h, p, out, hp, ho, k, hk => by
    have hi : i < l.length := by omega
    rw [show k + (d + 1) + 1 = (k + d + 1) + 1 by omega, spec_ChainOf.l0, if_pos (by omega), if_pos (by omega), if_pos (by omega), drop_rd l i hi]
    generalize rdOf ByteArray.empty l (i : Int) = s
    unfold chainR
    by_cases c : (s.size : Int) > 3968
    · rw [if_pos c, if_pos c]
    · rw [if_neg c, if_neg c, if_pos (by omega), digest_spec (p ++ s) (by rw [ByteArray.size_append]; omega) _ (by rw [ByteArray.size_append]; omega), Option.bind_some, if_pos (by omega), wsucc (by omega) (by omega)]
      exact spec_chain l hl d (i + 1) (by omega) _ _ (digS_size _) (by simp; omega) k hk
theorem impl_chain (l : List ByteArray) (hl : l.length ≤ 300) : ∀ (d i : Nat), i + d = l.length → ∀ (p : ByteArray) (out : List ByteArray), p.size ≤ 32 → out.length = i → ∀ k, impl_ChainOf.l0 (k + d + 1) p out l (l.length : Int) (i : Int) = some (chainR p out (l.drop i))
  | 0, i, h, p, out, hp, ho, k => by
    rw [impl_ChainOf.l0, if_neg (by omega), List.drop_eq_nil_of_le (by omega)]
    rfl
  | d + 1, i, h, p, out, hp, ho, k => by
    have hi : i < l.length := by omega
    rw [show k + (d + 1) + 1 = (k + d + 1) + 1 by omega, impl_ChainOf.l0, if_pos (by omega), if_pos (by omega), if_pos (by omega), drop_rd l i hi]
    generalize rdOf ByteArray.empty l (i : Int) = s
    unfold chainR
    by_cases c : (s.size : Int) > 3968
    · rw [if_pos c, if_pos c]
    · rw [if_neg c, if_neg c, if_pos (by omega), digest_impl (p ++ s) (by rw [ByteArray.size_append]; omega), Option.bind_some, if_pos (by omega), wsucc (by omega) (by omega)]
      exact impl_chain l hl d (i + 1) (by omega) _ _ (digS_size _) (by simp; omega) k
theorem both_from (p : ByteArray) (l : List ByteArray) (hl : l.length ≤ 1048576) : ∃ g : List ByteArray × Bool, g.1.length ≤ 1048576 ∧ From (fun k => spec_ChainOf.f k p l) g ∧ From (fun k => impl_ChainOf.f k p l) g := by
  by_cases hp : (p.size : Int) = 32
  · by_cases h3 : (l.length : Int) > 300
    · refine ⟨([], false), by simp, ⟨1, fun k hk => ?_⟩, ⟨1, fun k hk => ?_⟩⟩
      · obtain ⟨k, rfl⟩ : ∃ n, k = n + 1 := ⟨k - 1, by omega⟩
        simp only [spec_ChainOf.f, hp, if_true, spec_ChainOf.j0, h3, decide_true]
      · obtain ⟨k, rfl⟩ : ∃ n, k = n + 1 := ⟨k - 1, by omega⟩
        simp only [impl_ChainOf.f, impl_IsDigest.f, hp, Option.bind_some, beq_self_eq_true, if_true, impl_ChainOf.j0, h3, decide_true]
    · have hlen := chainR_len l p []
      refine ⟨chainR p [] l, by simp only [List.length_nil] at hlen; omega, ⟨5000 + l.length + 2, fun k hk => ?_⟩, ⟨l.length + 2, fun k hk => ?_⟩⟩
      · obtain ⟨k, rfl⟩ : ∃ n, k = (n + l.length + 1) + 1 := ⟨k - l.length - 2, by omega⟩
        simp only [spec_ChainOf.f, hp, if_true, spec_ChainOf.j0, h3, decide_false, Bool.false_eq_true, if_false]
        exact spec_chain l (by omega) l.length 0 (by omega) p [] (by omega) rfl k (by omega)
      · obtain ⟨k, rfl⟩ : ∃ n, k = (n + l.length + 1) + 1 := ⟨k - l.length - 2, by omega⟩
        simp only [impl_ChainOf.f, impl_IsDigest.f, hp, Option.bind_some, beq_self_eq_true, if_true, impl_ChainOf.j0, h3, decide_false, Bool.false_eq_true, if_false]
        exact impl_chain l (by omega) l.length 0 (by omega) p [] (by omega) rfl k
  · refine ⟨([], false), by simp, ⟨1, fun k hk => ?_⟩, ⟨1, fun k hk => ?_⟩⟩
    · obtain ⟨k, rfl⟩ : ∃ n, k = n + 1 := ⟨k - 1, by omega⟩
      simp only [spec_ChainOf.f, hp, if_false, spec_ChainOf.j0, if_true]
    · obtain ⟨k, rfl⟩ : ∃ n, k = n + 1 := ⟨k - 1, by omega⟩
      have hb : ((p.size : Int) == 32) = false := by simpa using hp
      simp only [impl_ChainOf.f, impl_IsDigest.f, hb, Option.bind_some, Bool.false_eq_true, if_false, impl_ChainOf.j0, if_true]
theorem FnExactChainOf : laws_FnExactChainOf.Pure := by
  intro p l _ ⟨h1, q1⟩
  by_cases c0 : (p.size : Int) > 1048576
  · exact ⟨0, by simp only [laws_FnExactChainOf.f, c0, if_true]⟩
  obtain ⟨s, ⟨K0, hs⟩, hc⟩ := szStringS_tells l 1048576 (by omega) (by omega) h1 q1
  rcases hc with hc | ⟨b1, b2, b3, b4⟩
  · exact ⟨K0 + 1, by simp only [laws_FnExactChainOf.f, c0, if_false, laws_FnExactChainOf.j0, hs K0 (Nat.le_refl _), Option.bind_some, hc, if_true]⟩
  have hn : ¬ s < 0 := by omega
  obtain ⟨K1, e1⟩ := toStringS_from l b1
  obtain ⟨K2, e2⟩ := eqStringS_from l (by omega)
  obtain ⟨us, ⟨K7, e7⟩, _⟩ := strs_law l (by omega)
  obtain ⟨g, hg, ⟨K8, e8⟩, ⟨K9, e9⟩⟩ := both_from p l b1
  obtain ⟨K10, e10⟩ := eqStringS_from g.1 (by omega)
  obtain ⟨ys, ⟨K11, e11⟩, ⟨K12, e12⟩⟩ := strs_law g.1 (by omega)
  generalize hK : K0 + K1 + K2 + K7 + K8 + K9 + K10 + K11 + K12 = K
  refine ⟨K + 14, ?_⟩
  have hp : ¬ (1 + (g.1.length : Int)) < 0 := by omega
  have hu : ¬ (1 + (l.length : Int)) < 0 := by omega
  have hb : (g.2 != g.2) = false := by simp
  have HS := fun i => hs (K + i) (by omega)
  have E1 := fun i => e1 (K + i) (by omega)
  have E2 := fun i => e2 (K + i) (by omega)
  have E7 := fun i => e7 (K + i) (by omega)
  have E8 := fun i => e8 (K + i) (by omega)
  have E9 := fun i => e9 (K + i) (by omega)
  have E10 := fun i => e10 (K + i) (by omega)
  have E11 := fun i => e11 (K + i) (by omega)
  have E12 := fun i => e12 (K + i) (by omega)
  clear e1 e2 e7 e8 e9 e10 e11 e12 hs
  simp only [laws_FnExactChainOf.f, c0, if_false]
  simp only [laws_FnExactChainOf.j0, HS, hn, Option.bind_some, if_false]
  simp only [laws_FnExactChainOf.j1, E1, E8, E9, E10, hb, Option.bind_some, if_true]
  simp only [laws_FnExactChainOf.j2, Bool.false_eq_true, if_false]
  simp only [laws_FnExactChainOf.j3, E1, E2, Option.bind_some, if_true]
  simp only [laws_FnExactChainOf.j4, E7, E10, hu, hb, Option.bind_some, if_true, if_false]
  simp only [laws_FnExactChainOf.j5, Bool.false_eq_true, if_false]
  simp only [laws_FnExactChainOf.j6, E11, E12, hp, Option.bind_some, if_false]
  simp only [laws_FnExactChainOf.j7, if_true]
  simp only [laws_FnExactChainOf.j8, E1, E9, E10, hb, Option.bind_some, if_true]
  simp only [laws_FnExactChainOf.j9, Bool.false_eq_true, if_false]
  simp only [laws_FnExactChainOf.j10, E12, hp, Option.bind_some, if_true, if_false]

end Go.Proofs.Ytopdflppdpmblaa.Pure
