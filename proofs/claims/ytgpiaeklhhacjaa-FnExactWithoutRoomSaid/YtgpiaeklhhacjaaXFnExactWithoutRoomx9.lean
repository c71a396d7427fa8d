-- Written by a program of this session (wip/xprint: over the kit's print). Not trusted: Lean checks it.
import Derived.Test.YtgpiaeklhhacjaaXFnExactWithoutRoomx0
import Derived.Test.YtgpiaeklhhacjaaXFnExactWithoutRoomx7
import Derived.Test.YtgpiaeklhhacjaaXFnExactWithoutRoomx8
namespace Go.Proofs.Ytgpiaeklhhacjaa.XFnExactWithoutRoom
open Go.RowKit Go.Proofs.YtgpiaeklhhacjaaW.PrintWords Go.Proofs.YtgpiaeklhhacjaaW.PrintLast Go.Proofs.YtgpiaeklhhacjaaW.PrintMore
open Go.Proofs.Ytgpiaeklhhacjaa.XW
attribute [local go_sem] max2_int min2_int max_two min_two max_three min_three max_four min_four   -- for this text's walks alone
set_option linter.unusedVariables false
set_option linter.unusedSimpArgs false

/-! ### slices_DeleteP: function 104 (by hand); rows of parcels -/
theorem zeroCells_all {zc : Array Value} {n : Nat} {q : Value → Prop} (hz : 0 < zc.size) (h : ∀ u ∈ zc, q u) : ∀ u ∈ (Builtin.zeroCells zc n).toList, q u := by
 intro u hu
 unfold Builtin.zeroCells at hu
 rw [Array.toList_map, List.mem_map] at hu
 obtain ⟨i, _, rfl⟩ := hu
 have : i % zc.size < zc.size := Nat.mod_lt _ hz
 rw [getElem!_pos zc _ this]
 exact h _ (Array.getElem_mem this)
theorem run_clear_cells {P : Program} (w : World) (t e ty : TypeId) (z : Value) (ht : P.underlying t = some (.slice e)) (hv : ∀ w, (zeroValue e).run P w = .ok z w) (b o n c : Nat) (h1 : ∀ u ∈ (Builtin.zeroCells z.cells n).toList, u.oneCell' = true) (hn : 0 < n)
  (hc : ∀ j, j < (Builtin.zeroCells z.cells n).toList.length → (w.cell? ⟨b, o + j, none⟩).isSome = true) (hf : ∀ j, j < (Builtin.zeroCells z.cells n).toList.length → w.frozen? ⟨b, o + j, none⟩ = false) :
  (Builtin.clear_ #[t] ty #[.slice (some ⟨b, o, none⟩) n c]).run P w = .ok (.tuple #[]) (w.setCells b o (Builtin.zeroCells z.cells n).toList) := by
 have hst := run_storeCells_cells (P := P) b o (Builtin.zeroCells z.cells n).toList 0 w (by simpa using hc) (by simpa using hf) h1
 simp only [Nat.add_zero] at hst
 obtain ⟨m, rfl⟩ : ∃ m, n = m + 1 := ⟨n - 1, by omega⟩
 simp [Builtin.clear_, run_underlying ht, hv, hst]
set_option maxHeartbeats 4000000 in
set_option maxRecDepth 100000 in
theorem delete_raw (g n cap i j : Nat) (cur : Array Value) (w : World) (hb : w.heap[g]? = some (.cells cur 60 (0, 0))) (hone : ∀ u ∈ cur.toList.take (n * 2), u.oneCell' = true) (hsz : cur.size = cap * 2) (hn : n ≤ cap) (hm : cap ≤ 9223372036854775807) (hij : i < j) (hj : j ≤ n) :
  Calls Try.prog 104 #[.slice (some ⟨g, 0, none⟩) n cap, .int .i64 i, .int .i64 j] w fun e w' => e = .returned (.slice (some ⟨g, 0, none⟩) (n - (j - i)) cap) ∧ w.grownBy w' (some g) ∧
   ∃ cur', w'.heap[g]? = some (.cells cur' 60 (0, 0)) ∧ cur'.size = cur.size ∧ cur'.toList.take ((n - (j - i)) * 2) = cur.toList.take (i * 2) ++ (cur.toList.take (n * 2)).drop (j * 2) := by
 obtain ⟨i0, hi0, hz0, hz1, hz2⟩ := info_parts info60
 obtain ⟨news, hnews⟩ : ∃ news, news = (cur.toList.take (n * 2)).drop (j * 2) := ⟨_, rfl⟩
 have hnl : news.length = (n - j) * 2 := by rw [hnews, List.length_drop, List.length_take, Array.length_toList]; omega
 have hget : ∀ t u, news[t]? = some u → w.cell? ⟨g, j * 2 + t, none⟩ = some u := by
  intro t u hu
  rw [hnews, List.getElem?_drop, List.getElem?_take] at hu
  split at hu
  ·rw [blk_cell hb, ← Array.getElem?_toList]; exact hu
  ·cases hu
 obtain ⟨A, hA, hsrc⟩ : ∃ A : Addr, (if cap = j then some (⟨g, 0, none⟩ : Addr) else some ⟨g, j * 2, none⟩) = some A ∧ Hid (∀ t u, news[t]? = some u → w.drew.cell? (A.add t) = some u) := by
  by_cases h : cap = j
  ·refine ⟨⟨g, 0, none⟩, by simp [h], fun t u hu => ?_⟩
   have h0 : news.length = 0 := by rw [hnl]; omega
   rw [List.length_eq_zero_iff.1 h0] at hu
   simp at hu
  ·refine ⟨⟨g, j * 2, none⟩, by simp [h], fun t u hu => ?_⟩
   rw [Addr.add_lit]
   exact hget t u hu
 have s1 : Hid (news.length = (n - j) * 2) := hnl
 have hone2 : ∀ u ∈ news, u.oneCell' = true := by
  intro u hu
  rw [hnews] at hu
  exact hone u (List.mem_of_mem_drop hu)
 have s2 : Hid (∀ u ∈ news, u.oneCell' = true) := hone2
 have hbd : w.drew.heap[g]? = some (.cells cur 60 (0, 0)) := hb
 have cells_in : ∀ (W : World) (cs : Array Value) (o m : Nat), W.heap[g]? = some (.cells cs 60 (0, 0)) → o + m ≤ cs.size → ∀ t, t < m → (W.cell? ⟨g, o + t, none⟩).isSome = true ∧ W.frozen? ⟨g, o + t, none⟩ = false := by
  intro W cs o m hW hle t ht
  refine ⟨?_, blk_frozen hW _⟩
  rw [blk_cell hW, Array.getElem?_eq_getElem (by omega)]; rfl
 have s3 : Hid (∀ t, t < news.length → (w.drew.cell? ⟨g, 0 + i * 2 + t, none⟩).isSome = true ∧ w.drew.frozen? ⟨g, 0 + i * 2 + t, none⟩ = false) := by
  intro t ht
  rw [Nat.zero_add]
  exact cells_in w.drew cur (i * 2) news.length hbd (by omega) t ht
 obtain ⟨W1, hW1⟩ : ∃ W1, W1 = w.drew.setCells g (0 + i * 2) news := ⟨_, rfl⟩
 obtain ⟨cur1, c1, c2, c3⟩ := setCells_row (g := g) news (0 + i * 2) w.drew cur hbd (by omega)
 rw [← hW1] at c1
 obtain ⟨zs, hzs⟩ : ∃ zs, zs = (Builtin.zeroCells (Value.agg #[(.int .i64 0), (.int .i64 0)]).cells (n - (i + (n - j)))).toList := ⟨_, rfl⟩
 have hzl : zs.length = (n - (i + (n - j))) * 2 := by rw [hzs, Array.length_toList, size_zeroCells]; rfl
 have hz1' : ∀ u ∈ zs, u.oneCell' = true := by rw [hzs]; exact zeroCells_all (by decide) (by intro u hu; simp [Value.cells] at hu; rcases hu with rfl | rfl <;> rfl)
 have hcl : ∀ ty, (Builtin.clear_ #[52] ty #[.slice (some ⟨g, (i + (n - j)) * 2, none⟩) (n - (i + (n - j))) (cap - (i + (n - j)))]).run Try.prog W1 = .ok (.tuple #[]) (W1.setCells g ((i + (n - j)) * 2) zs) := by
  intro ty
  rw [hzs]
  exact run_clear_cells W1 52 60 ty (.agg #[(.int .i64 0), (.int .i64 0)]) Try.underlying52 (fun w => Try.zeroValue60 w) g _ _ _ (by rw [← hzs]; exact hz1') (by omega) (fun t ht => (cells_in W1 cur1 _ _ c1 (by rw [← hzs, hzl, c2]; omega) t ht).1) (fun t ht => (cells_in W1 cur1 _ _ c1 (by rw [← hzs, hzl, c2]; omega) t ht).2)
 have hW : Hid (W1 = w.drew.setCells g (0 + i * 2) news) := hW1
 have C1 := Lib.hid c1
 have C3 := Lib.hid c3
 have ZL := Lib.hid hzl
 have NW := Lib.hid hnews
 have hic : i ≤ cap := by omega
 have hjc : j ≤ cap := by omega
 clear hW1 c1 c3 hzl hz1' hzs hone2 hnews cells_in hget hnl hbd hb hone
 go_enter Try.func104, Try.ntmps104
 go_wp2_with fail
 go_region_law (refine step_append_room rfl (.tmp 22) (.tmp 25) 52 rfl 60 i0 2 Try.underlying52 hi0 hz1 g 0 i cap (by simp [Act.eval, Act.put]) A (n - j) (cap - j) news (by simp [Act.eval, Act.put]; try exact hA) s1.out hsrc.out s2.out (by omega) s3.out ?_; rw [← hW.out])
 go_wp2
 go_ret
 obtain ⟨cur2, d1, d2, d3⟩ := setCells_row (g := g) zs ((i + (n - j)) * 2) W1 cur1 C1.out (by rw [ZL.out, c2]; omega)
 refine ⟨by rw [show n - (j - i) = i + (n - j) by omega]; rfl, ?_, cur2, d1, by rw [d2, c2], ?_⟩
 ·have g1 : w.grownBy W1 (some g) := by
   rw [hW.out]
   obtain ⟨q1, q2, q3, q4⟩ := setCells_same g news (0 + i * 2) w.drew
   exact ⟨q1, q2, q3, Nat.le_of_eq q4.symm, fun k _ hk => setCells_far news (0 + i * 2) k (fun e => hk (by rw [e]))⟩
  obtain ⟨q1, q2, q3, q4⟩ := setCells_same g zs ((i + (n - j)) * 2) W1
  exact ⟨q1.trans g1.os, q2.trans g1.tape, q3.trans g1.output, by rw [q4]; exact g1.size, fun k hk hne => (setCells_far zs _ k (fun e => hne (by rw [e]))).trans (g1.block k hk hne)⟩
 ·rw [d3, C3.out, show n - (j - i) = i + (n - j) by omega, Nat.zero_add, ← NW.out]
  have l1 : (cur.toList.take (i * 2) ++ news).length = (i + (n - j)) * 2 := by rw [List.length_append, List.length_take, s1.out, Array.length_toList]; omega
  rw [List.take_left' l1, List.append_assoc, List.take_left' l1]
def encP (p : S60) : List Value := [.int .i64 p.f0, .int .i64 p.f1]
instance inhS60 : Inhabited S60 := ⟨z60⟩
theorem reps_flat : ∀ (ps : List S60) (cs : List Value) (R : S60 → List Value → Prop), (∀ p c, R p c → c = encP p) → Reps R 2 ps cs → cs = ps.flatMap encP
 | [], cs, R, hR, h => by
  have := h.1
  simp only [List.length_nil, Nat.zero_mul] at this
  rw [List.length_eq_zero_iff.1 this]; rfl
 | p :: ps, cs, R, hR, h => by
  have h0 := hR p _ (h.2 0 p rfl)
  rw [Nat.zero_mul, List.drop_zero] at h0
  have h1 : Reps R 2 ps (cs.drop 2) := ⟨by have := h.1; simp only [List.length_cons, List.length_drop] at *; omega, fun j q hj => by
   have := h.2 (j + 1) q (by simpa using hj)
   rw [List.drop_drop]
   rwa [show (j + 1) * 2 = 2 + j * 2 by omega] at this⟩
  have ih := reps_flat ps (cs.drop 2) R hR h1
  rw [List.flatMap_cons, ← ih, ← h0, List.take_append_drop]
theorem flat_reps : ∀ (ps : List S60) (R : S60 → List Value → Prop), (∀ p, R p (encP p)) → Reps R 2 ps (ps.flatMap encP)
 | [], R, _ => Reps.none _ _
 | p :: ps, R, hR => by
  obtain ⟨h1, h2⟩ := flat_reps ps R hR
  refine ⟨by rw [List.flatMap_cons, List.length_append, h1]; simp only [encP, List.length_cons, List.length_nil]; omega, fun j q hj => ?_⟩
  cases j with
  | zero => cases hj; exact hR p
  | succ j =>
   have := h2 j q (by simpa using hj)
   rw [List.flatMap_cons, show (j + 1) * 2 = 2 + j * 2 by omega, ← List.drop_drop]
   exact this
theorem flat_len (l : List S60) : (l.flatMap encP).length = l.length * 2 := (flat_reps l (fun p c => c = encP p) (fun _ => rfl)).1
theorem flat_take : ∀ (l : List S60) (i : Nat), (l.flatMap encP).take (i * 2) = (l.take i).flatMap encP
 | [], i => by simp
 | p :: l, 0 => by simp
 | p :: l, i + 1 => by
  rw [List.flatMap_cons, show (i + 1) * 2 = i * 2 + 1 + 1 by omega, List.take_succ_cons, List.flatMap_cons, ← flat_take l i]; rfl
theorem flat_drop : ∀ (l : List S60) (i : Nat), (l.flatMap encP).drop (i * 2) = (l.drop i).flatMap encP
 | [], i => by simp
 | p :: l, 0 => by simp
 | p :: l, i + 1 => by
  rw [List.flatMap_cons, show (i + 1) * 2 = i * 2 + 1 + 1 by omega, List.drop_succ_cons, ← flat_drop l i]; rfl
theorem flat_one (l : List S60) : ∀ u ∈ l.flatMap encP, u.oneCell' = true := by
 intro u hu
 obtain ⟨p, _, h⟩ := List.mem_flatMap.1 hu
 simp only [encP, List.mem_cons, List.not_mem_nil, or_false] at h
 rcases h with rfl | rfl <;> rfl
/-- A row of parcels of the call's own, opened: nil, or a block's head. -/
theorem rowP {w : World} {base : Nat} {ok : Nat → Prop} {u : Value} {l : List S60} (h : Kd.R k60 60 w base ok u l) :
  (u = .slice none 0 0 ∧ l = []) ∨ ∃ g cap cur, u = .slice (some ⟨g, 0, none⟩) l.length cap ∧ ok g ∧ base ≤ g ∧ w.heap[g]? = some (.cells cur 60 (0, 0)) ∧ l.length ≤ cap ∧ cap ≤ 9223372036854775807 ∧ cur.size = cap * 2 ∧ cur.toList.take (l.length * 2) = l.flatMap encP := by
 obtain ⟨hok, inner, hown, hr⟩ := h
 have hf := reps_flat l inner _ (fun p c hM => k60_openM hM) hr
 rcases hown.2 with ⟨rfl, hn⟩ | ⟨g, cap, cur, rfl, hbase, hb, hc1, hc2, hc3, hc4⟩
 ·exact .inl ⟨rfl, List.length_eq_zero_iff.1 hn⟩
 ·exact .inr ⟨g, cap, cur, rfl, hok g rfl, hbase, hb, hc1, by simpa [maxLen] using hc2, hc3, by rw [← hf]; exact hc4⟩
theorem mkP {w : World} {base g cap : Nat} {ok : Nat → Prop} {cur : Array Value} {l : List S60} (hok : ok g) (hbase : base ≤ g) (hb : w.heap[g]? = some (.cells cur 60 (0, 0))) (hl : l.length ≤ cap) (hc : cap ≤ 9223372036854775807) (hs : cur.size = cap * 2) (ht : cur.toList.take (l.length * 2) = l.flatMap encP) :
  Kd.R k60 60 w base ok (.slice (some ⟨g, 0, none⟩) l.length cap) l :=
 ⟨fun k hk => (show g = k from by simpa [Value.ownBlock] using hk) ▸ hok, l.flatMap encP, ⟨flat_len l, .inr ⟨g, cap, cur, rfl, hbase, hb, hl, by simpa [maxLen] using hc, hs, ht⟩⟩, flat_reps l _ (fun p => k60_mkM _ _ _ p)⟩
theorem delete_row {w : World} {base : Nat} {ok : Nat → Prop} {u : Value} {l : List S60} (i j : Nat) (hij : i < j) (hj : j ≤ l.length) (h : Kd.R k60 60 w base ok u l) :
  Calls Try.prog 104 #[u, .int .i64 i, .int .i64 j] w fun e w' => ∃ u', e = .returned u' ∧ Kd.R k60 60 w' base ok u' (l.take i ++ l.drop j) ∧ u'.ownBlock = u.ownBlock ∧ w.grownBy w' u.ownBlock := by
 rcases rowP h with ⟨rfl, rfl⟩ | ⟨g, cap, cur, rfl, hok, hbase, hb, h1, h2, h3, h4⟩
 ·simp at hj; omega
 ·refine (delete_raw g l.length cap i j cur w hb (by rw [h4]; exact flat_one l) h3 h1 h2 hij hj).mono ?_
  rintro e w' ⟨rfl, hg, cur', c1, c2, c3⟩
  have hl : (l.take i ++ l.drop j).length = l.length - (j - i) := by rw [List.length_append, List.length_take, List.length_drop]; omega
  refine ⟨_, rfl, ?_, rfl, hg⟩
  rw [← hl]
  refine mkP hok hbase c1 (by omega) h2 (by rw [c2, h3]) ?_
  rw [hl, c3, h4, flat_drop, List.flatMap_append, ← flat_take, ← h4, List.take_take, Nat.min_eq_left (by omega)]
theorem blk_bel {w w1 : World} {g : Nat} {o : Obj} (h : w.heap[g]? = some o) (hb : Below w.heap.size w w1) : w1.heap[g]? = some o := (hb.block g (blk_lt h)).trans h
theorem cellsP {w : World} {g : Nat} {l : List S60} (h : Kd.C k60 w (some ⟨g, 0, none⟩) l.length l) (j : Nat) (hj : j < l.length) : w.cell? ⟨g, j * 2, none⟩ = some (.int .i64 (l[j]!).f0) ∧ w.cell? ⟨g, j * 2 + 1, none⟩ = some (.int .i64 (l[j]!).f1) := by
 obtain ⟨ad, c, e, hc, hK, hcell⟩ := Kd.C_get h z60 (j : Int) (by omega) (by omega)
 cases e
 obtain rfl := k60_open hK
 have hx : l.getD (j : Int).toNat z60 = l[j]! := by rw [Int.toNat_natCast, List.getD_eq_getElem?_getD, List.getElem?_eq_getElem hj, getElem!_pos l j hj]; rfl
 rw [hx] at hcell
 have h0 := hcell 0 _ rfl
 have h1 := hcell 1 _ rfl
 rw [Int.toNat_natCast, add_plain] at h0 h1
 exact ⟨h0, h1⟩


/-! ### slices_CloneP: function 98 (by hand) -/
def slices_CloneP.f (l0 : List S60) : Option (List S60) := if l0.length * 16 ≤ 140737488351232 then some l0 else none
set_option maxHeartbeats 8000000 in
set_option maxRecDepth 100000 in
theorem slices_CloneP.calls (A0 : Option Addr) (c0 : Nat) (l0 : List S60) (r : List S60) (w : World) (hr0 : Kd.C k60 w A0 l0.length l0) (hc0 : l0.length ≤ c0) (h : slices_CloneP.f l0 = some r) :
  Calls Try.prog 98 #[.slice A0 l0.length c0] w fun e w' => ∃ v0_ : Value, e = .returned (v0_) ∧ Kd.R k60 60 w' w.heap.size (fun _ => True) v0_ r ∧ Below w.heap.size w w' := by
 unfold slices_CloneP.f at h
 split at h
 ·rename_i hlt
  injection h with h
  subst h
  have HR0 := Aside0.mk hr0
  have HC0 := Aside0.mk hc0
  have LM := Aside0.mk hlt
  clear hr0 hc0 hlt
  have HB := Aside0.mk (Below.refl w.heap.size w)
  have knil := fun (W : World) (a : Option Addr) (n c n' c' : Nat) => Lib.run_eql_slice_nil (P := Try.prog) W 52 60 a n c n' c' Try.underlying52
  cases A0 with
  | none =>
   have hn : l0 = [] := by
    cases l0 with
    | nil => rfl
    | cons x l =>
     obtain ⟨_, _, h3⟩ := HR0.out
     obtain ⟨ad, had, _⟩ := h3 (by simp)
     cases had
   subst hn
   clear HR0 HC0 LM
   go_enter Try.func98, Try.ntmps98
   go_wp2
   go_ret
   exact ⟨_, rfl, Kd.R_nil _ _ _ _ _, Below.refl _ _⟩
  | some ad =>
   obtain ⟨y, hy⟩ : ∃ y : List S60, y = [] ++ l0 := ⟨_, rfl⟩
   have Ny := Aside0.mk hy
   have hyl : l0 = y := by rw [hy]; rfl
   have Nl := Aside0.mk hyl
   clear hy hyl
   go_enter Try.func98, Try.ntmps98
   go_wp2_with (first | ((with_reducible refine gate_dst (N := 5) rfl ?_); refine Kd.R_lit k60 _ 60 ?hg (N := 5) ?hd (xs := ([] : List S60)) (inner := []) (ok := fun _ => True) (okp := fun _ => True) ?hr ?hp (fun _ hk => hk) trivial (Below.refl _ _) (Nat.le_refl _) (by simp) ?_; (case hd => rfl); (case hg => rfl); (case hr => first | (go_simp; done) | (go_simp; rfl)); (case hp => exact (Reps.none _ _)); intro v139 w3 ho4 hb hg_ hnew_; clear hg_ hnew_; have n0_ := Aside0.mk (Kd.R_lower ho4 (below_size (by repeat (first | (with_reducible first | exact HB.out | apply below_alloc | apply pw_below_drewN | apply below_drew1) | exact HB.out)))); have n1_ := Aside0.mk (below_step (by repeat (first | (with_reducible first | exact HB.out | apply below_alloc | apply pw_below_drewN | apply below_drew1) | exact HB.out)) hb); clear HB; have HO140 := n0_; have HB := n1_; clear n0_ n1_; clear hb ho4) | ((with_reducible refine gate_builtin (b := .append) (xs := #[.tmp 5, .tmp 6]) rfl ?_); at_builtin; refine Kd.R_append_rows k60 (w0 := w) w.heap.size rfl (.tmp 5) (.tmp 6) 52 60 (.agg #[(.int .i64 0), (.int .i64 0)]) 16 rfl Try.underlying52 info60 rfl (by decide) (by omega) v139 ([] : List S60) l0 _ _ _ (fun _ => True) (fun _ => False) rfl rfl ?aO ?aR (fun _ _ h => h) (fun _ h => h.elim) ?aF ?aB ?aS ?aL ?_; (case aR => repeat (first | exact (Kd.C_below HR0.out HB.out) | (with_reducible refine Kd.C_alloc ?_ _) | (with_reducible refine Kd.C_drewN ?_ _) | (with_reducible refine Kd.C_drew ?_))); (case aB => exact (by repeat (first | (with_reducible first | exact HB.out | apply below_alloc | apply pw_below_drewN | apply below_drew1) | exact HB.out))); (case aF => exact (fun _ _ => trivial)); (case aO => exact (by (with_reducible repeat (first | apply Kd.R_alloc | apply Kd.R_drewN | apply Kd.R_drew)); exact HO140.out)); (case aS => exact (below_size (by repeat (first | (with_reducible first | exact HB.out | apply below_alloc | apply pw_below_drewN | apply below_drew1) | exact HB.out)))); (case aL => have := LM.out; simp only [List.length_nil]; omega); intro v142 w5 ho hb hg hat; rw [← Ny.out] at ho; have n0_ := Aside0.mk (hb); have n1_ := Aside0.mk (ho); clear HB; clear HO140; have HB := n0_; have HO143 := n1_; clear n0_ n1_; clear ho hb hg hat))
   go_ret
   exact ⟨_, rfl, by rw [Nl.out]; (with_reducible repeat (first | apply Kd.R_alloc | apply Kd.R_drewN | apply Kd.R_drew)); exact HO143.out, by repeat (first | (with_reducible first | exact HB.out | apply below_alloc | apply pw_below_drewN | apply below_drew1) | exact HB.out)⟩
 ·cases h


/-! ### impl_clonePost: function 114 -/
def impl_clonePost.l0 : Nat → List (S58) → Int → Int → Int → List (S58) → Option (Int × (List (S58)))
 | 0, _, _, _, _, _ => none
 | k + 1, x10, x11, x12, x254000, x254001 => if x12 < x11 then (if 0 ≤ x12 then (if x12 < (x10.length : Int) then ((slices_CloneP.f ((rd_T58 x10 x12).f3)).bind fun t256 => (if x254001.length < 2513169434916 then (impl_clonePost.l0 k x10 x11 (wrap64 (x12 + 1)) x254000 (x254001 ++ [(⟨(rd_T58 x10 x12).f0, (rd_T58 x10 x12).f1, (rd_T58 x10 x12).f2, t256⟩ : S58)])) else (none))) else (none)) else (none)) else (some (x254000, x254001))
def impl_clonePost.f (k : Nat) (a0_0 : Int) (l0_1 : List (S58)) : Option (Int × (List (S58))) := impl_clonePost.l0 k l0_1 (l0_1.length : Int) 0 a0_0 ([] : List (S58))
theorem impl_clonePost.mono_l : ∀ k, (∀ y0 y1 y2 y3 y4, LeO (impl_clonePost.l0 k y0 y1 y2 y3 y4) (impl_clonePost.l0 (k + 1) y0 y1 y2 y3 y4))
 | 0 => fun _ _ _ _ _ r h => by simp [impl_clonePost.l0] at h
 | k + 1 => by
  have ih0 := impl_clonePost.mono_l k
  ·intro y0 y1 y2 y3 y4
   unfold impl_clonePost.l0
   repeat' first
   | (with_reducible exact ih0 _ _ _ _ _)
   | (with_reducible exact LeO.refl _)
   | (with_reducible exact LeO.none _)
   | (with_reducible refine LeO.ite ?_ ?_)
   | (with_reducible refine LeO.bind ?_ (fun _ => ?_))
   | exact ih0 _ _ _ _ _
   | exact LeO.none _
   | refine LeO.ite ?_ ?_
   | refine LeO.bind ?_ (fun _ => ?_)
theorem impl_clonePost.mono : ∀ a0 a1 k, LeO (impl_clonePost.f k a0 a1) (impl_clonePost.f (k + 1) a0 a1) := by
 intro a0 a1 k
 have ih0 := impl_clonePost.mono_l k
 unfold impl_clonePost.f
 repeat' first
   | (with_reducible exact ih0 _ _ _ _ _)
   | (with_reducible exact LeO.refl _)
   | (with_reducible exact LeO.none _)
   | (with_reducible refine LeO.ite ?_ ?_)
   | (with_reducible refine LeO.bind ?_ (fun _ => ?_))
   | exact ih0 _ _ _ _ _
   | exact LeO.none _
   | refine LeO.ite ?_ ?_
   | refine LeO.bind ?_ (fun _ => ?_)
set_option maxHeartbeats 8000000 in
set_option maxRecDepth 100000 in
theorem impl_clonePost.calls (k : Nat) (a0_0 : Int) (A0_1 : Option Addr) (c0_1 : Nat) (l0_1 : List (S58)) (r1 : Int) (r2 : List (S58)) (w : World) (hr0_1 : Kd.C k58 w A0_1 l0_1.length l0_1) (hc0_1 : l0_1.length ≤ c0_1) (h : impl_clonePost.f k a0_0 l0_1 = some (r1, r2)) :
  Calls Try.prog 114 #[.agg #[.int .i64 a0_0, .slice A0_1 l0_1.length c0_1]] w fun e w' => ∃ v1_ : Value, e = .returned (.agg #[.int .i64 r1, v1_]) ∧ Kd.S k58 58 w' w.heap.size (fun _ => True) v1_ r2 ∧ Below w.heap.size w w' := by
 have hu29 := Try.underlying29
 have hu58 := Try.underlying58
 have HR0_1 := Aside0.mk hr0_1
 have HC0_1 := Aside0.mk hc0_1
 clear hr0_1 hc0_1
 have HB := Aside0.mk (Below.refl w.heap.size w)
 have H : (impl_clonePost.l0 k l0_1 (l0_1.length : Int) 0 a0_0 ([] : List (S58))) = some (r1, r2) := h
 clear h
 have H' := Aside0.mk H
 clear H
 go_enter Try.func114, Try.ntmps114
 go_wp2_with (first | ((with_reducible refine gate_dst (N := 1) rfl ?_); refine box_event ?hg (N := 1) ?hd (cs := #[.int .i64 a0_0, .slice A0_1 l0_1.length c0_1]) (t := 29) ?hr ?_; (case hd => rfl); (case hg => rfl); (case hr => first | (go_simp; done) | (go_simp; rfl)); intro gb251 hg w2 hbox hb; have n0_ := Aside0.mk (below_step (by repeat (first | (with_reducible first | exact HB.out | apply below_alloc | apply pw_below_drewN | apply below_drew1) | exact HB.out)) hb); have n1_ := Aside0.mk (hbox); have n2_ := Aside0.mk ((by rw [hg]; exact (below_size (by repeat (first | (with_reducible first | exact HB.out | apply below_alloc | apply pw_below_drewN | apply below_drew1) | exact HB.out))) : w.heap.size ≤ gb251)); have n3_ := Aside0.mk ((by rw [hg]; exact (below_size (by repeat (first | (with_reducible first | exact HB.out | apply below_alloc | apply pw_below_drewN | apply below_drew1) | exact HB.out))) : w.heap.size ≤ gb251)); clear HB; have HB := n0_; have BK251 := n1_; have GW251 := n2_; have GE251 := n3_; clear n0_ n1_ n2_ n3_; clear hb hbox hg) | ((with_reducible refine gate_dst (N := 2) rfl ?_); refine box_event ?hg (N := 2) ?hd (cs := #[.int .i64 0, .slice none 0 0]) (t := 29) ?hr ?_; (case hd => rfl); (case hg => rfl); (case hr => first | (go_simp; done) | (go_simp; rfl)); intro gb252 hg w3 hbox hb; have n0_ := Aside0.mk (blk_below (g := gb251) (o := .cells #[.int .i64 a0_0, .slice A0_1 l0_1.length c0_1] 29 (0, 0)) (by (with_reducible repeat (first | refine blk_drewN ?_ _ | refine blk_drew ?_ | refine blk_alloc ?_ _)); exact BK251.out) hb); have n1_ := Aside0.mk (below_step (by repeat (first | (with_reducible first | exact HB.out | apply below_alloc | apply pw_below_drewN | apply below_drew1 | refine below_set ?_ GE251.out) | exact HB.out)) hb); have n2_ := Aside0.mk (hbox); have n3_ := Aside0.mk ((by rw [hg]; exact (below_size (by repeat (first | (with_reducible first | exact HB.out | apply below_alloc | apply pw_below_drewN | apply below_drew1 | refine below_set ?_ GE251.out) | exact HB.out))) : w.heap.size ≤ gb252)); have n4_ := Aside0.mk ((by rw [hg]; exact (below_size (by repeat (first | (with_reducible first | exact HB.out | apply below_alloc | apply pw_below_drewN | apply below_drew1 | refine below_set ?_ GE251.out) | exact HB.out))) : w.heap.size ≤ gb252)); have n5_ := Aside0.mk ((by rw [hg]; exact Nat.ne_of_lt (blk_lt (g := gb251) (o := .cells #[.int .i64 a0_0, .slice A0_1 l0_1.length c0_1] 29 (0, 0)) (by (with_reducible repeat (first | refine blk_drewN ?_ _ | refine blk_drew ?_ | refine blk_alloc ?_ _)); exact BK251.out)) : gb251 ≠ gb252)); have n6_ := Aside0.mk ((by rw [hg]; exact Nat.ne_of_gt (blk_lt (g := gb251) (o := .cells #[.int .i64 a0_0, .slice A0_1 l0_1.length c0_1] 29 (0, 0)) (by (with_reducible repeat (first | refine blk_drewN ?_ _ | refine blk_drew ?_ | refine blk_alloc ?_ _)); exact BK251.out)) : gb252 ≠ gb251)); clear BK251; clear HB; have BK251 := n0_; have HB := n1_; have BK252 := n2_; have GW252 := n3_; have GE252 := n4_; have NB251_252 := n5_; have NB252_251 := n6_; clear n0_ n1_ n2_ n3_ n4_ n5_ n6_; clear hb hbox hg; have hnb4 := NB251_252.out; have hnc4 := NB252_251.out; have hcz5_0 : w3.cell? ⟨gb251, 0, none⟩ = some (.int .i64 a0_0) := (blk_cell BK251.out 0).trans rfl; have hcz5_1 : w3.cell? ⟨gb251, 1, none⟩ = some (.slice A0_1 l0_1.length c0_1) := (blk_cell BK251.out 1).trans rfl; have hfz5_0 := blk_frozen BK251.out 0; have hfz5_1 := blk_frozen BK251.out 1) | ((with_reducible refine gate_dst (N := 3) rfl ?_); refine box_event ?hg (N := 3) ?hd (cs := #[.int .i64 0, .slice none 0 0]) (t := 29) ?hr ?_; (case hd => rfl); (case hg => rfl); (case hr => first | (go_simp; done) | (go_simp; rfl)); intro gb253 hg w6 hbox hb; have n0_ := Aside0.mk (blk_below (g := gb251) (o := .cells #[.int .i64 a0_0, .slice A0_1 l0_1.length c0_1] 29 (0, 0)) (by (with_reducible repeat (first | refine blk_drewN ?_ _ | refine blk_drew ?_ | refine blk_alloc ?_ _)); exact BK251.out) hb); have n1_ := Aside0.mk (blk_below (g := gb252) (o := .cells #[.int .i64 0, .slice none 0 0] 29 (0, 0)) (by (with_reducible repeat (first | refine blk_drewN ?_ _ | refine blk_drew ?_ | refine blk_alloc ?_ _)); exact BK252.out) hb); have n2_ := Aside0.mk (below_step (by repeat (first | (with_reducible first | exact HB.out | apply below_alloc | apply pw_below_drewN | apply below_drew1 | refine below_set ?_ GE251.out | refine below_set ?_ GE252.out) | exact HB.out)) hb); have n3_ := Aside0.mk (hbox); have n4_ := Aside0.mk ((by rw [hg]; exact (below_size (by repeat (first | (with_reducible first | exact HB.out | apply below_alloc | apply pw_below_drewN | apply below_drew1 | refine below_set ?_ GE251.out | refine below_set ?_ GE252.out) | exact HB.out))) : w.heap.size ≤ gb253)); have n5_ := Aside0.mk ((by rw [hg]; exact (below_size (by repeat (first | (with_reducible first | exact HB.out | apply below_alloc | apply pw_below_drewN | apply below_drew1 | refine below_set ?_ GE251.out | refine below_set ?_ GE252.out) | exact HB.out))) : w.heap.size ≤ gb253)); have n6_ := Aside0.mk ((by rw [hg]; exact Nat.ne_of_lt (blk_lt (g := gb251) (o := .cells #[.int .i64 a0_0, .slice A0_1 l0_1.length c0_1] 29 (0, 0)) (by (with_reducible repeat (first | refine blk_drewN ?_ _ | refine blk_drew ?_ | refine blk_alloc ?_ _)); exact BK251.out)) : gb251 ≠ gb253)); have n7_ := Aside0.mk ((by rw [hg]; exact Nat.ne_of_gt (blk_lt (g := gb251) (o := .cells #[.int .i64 a0_0, .slice A0_1 l0_1.length c0_1] 29 (0, 0)) (by (with_reducible repeat (first | refine blk_drewN ?_ _ | refine blk_drew ?_ | refine blk_alloc ?_ _)); exact BK251.out)) : gb253 ≠ gb251)); have n8_ := Aside0.mk ((by rw [hg]; exact Nat.ne_of_lt (blk_lt (g := gb252) (o := .cells #[.int .i64 0, .slice none 0 0] 29 (0, 0)) (by (with_reducible repeat (first | refine blk_drewN ?_ _ | refine blk_drew ?_ | refine blk_alloc ?_ _)); exact BK252.out)) : gb252 ≠ gb253)); have n9_ := Aside0.mk ((by rw [hg]; exact Nat.ne_of_gt (blk_lt (g := gb252) (o := .cells #[.int .i64 0, .slice none 0 0] 29 (0, 0)) (by (with_reducible repeat (first | refine blk_drewN ?_ _ | refine blk_drew ?_ | refine blk_alloc ?_ _)); exact BK252.out)) : gb253 ≠ gb252)); clear BK251; clear BK252; clear HB; have BK251 := n0_; have BK252 := n1_; have HB := n2_; have BK253 := n3_; have GW253 := n4_; have GE253 := n5_; have NB251_253 := n6_; have NB253_251 := n7_; have NB252_253 := n8_; have NB253_252 := n9_; clear n0_ n1_ n2_ n3_ n4_ n5_ n6_ n7_ n8_ n9_; clear hb hbox hg; have hnb7 := NB253_251.out; have hnc7 := NB251_253.out; have hnb8 := NB253_252.out; have hnc8 := NB252_253.out; have hcz9_0 : w6.cell? ⟨gb253, 0, none⟩ = some (.int .i64 0) := (blk_cell BK253.out 0).trans rfl; have hcz9_1 : w6.cell? ⟨gb253, 1, none⟩ = some (.slice none 0 0) := (blk_cell BK253.out 1).trans rfl; have hfz9_0 := blk_frozen BK253.out 0; have hfz9_1 := blk_frozen BK253.out 1; have hcz10_0 : w6.cell? ⟨gb251, 0, none⟩ = some (.int .i64 a0_0) := (blk_cell BK251.out 0).trans rfl; have hcz10_1 : w6.cell? ⟨gb251, 1, none⟩ = some (.slice A0_1 l0_1.length c0_1) := (blk_cell BK251.out 1).trans rfl; have hfz10_0 := blk_frozen BK251.out 0; have hfz10_1 := blk_frozen BK251.out 1))
 go_loopg [12] k (fun kq v12 w' => ∃ (x12_1 : Int) (x254001_1 : List (S58)) (u254001 : Value), v12 = .int .i64 x12_1 ∧ Aside0 (impl_clonePost.l0 kq l0_1 (l0_1.length : Int) x12_1 a0_0 x254001_1 = some (r1, r2)) ∧ Aside0 (kq ≤ k) ∧ Aside0 (Kd.S k58 58 w' w.heap.size (fun _ => True) u254001 x254001_1) ∧ Aside0 (w'.heap[gb251]? = some (.cells #[.int .i64 a0_0, (.slice A0_1 l0_1.length c0_1)] 29 (0, 0))) ∧ Aside0 (w'.heap[gb252]? = some (.cells #[.int .i64 0, (.slice none 0 0)] 29 (0, 0))) ∧ Aside0 (w'.heap[gb253]? = some (.cells #[.int .i64 a0_0, u254001] 29 (0, 0))) ∧ Aside0 (Below w.heap.size w w'))
 case atStart => exact ⟨(0), (([] : List (S58))), (.slice none 0 0), (by first | rfl | (simp; done) | (simp [*]; done)), H', ⟨Nat.le_refl _⟩, ⟨by first | exact Kd.S_nil _ _ _ _ _ | exact Kd.N_nil _ _ _ _ _ | exact Kd.V_nil _ _ _ _ _ | exact Kd.Q_nil _ _ _ _ _ | exact Kd.R_nil _ _ _ _ _⟩, ⟨by (with_reducible repeat (first | refine blk_drewN ?_ _ | refine blk_drew ?_ | refine blk_alloc ?_ _)); refine blk_far ?_ NB251_253.out _; (with_reducible repeat (first | refine blk_drewN ?_ _ | refine blk_drew ?_ | refine blk_alloc ?_ _)); refine blk_far ?_ NB251_253.out _; (with_reducible repeat (first | refine blk_drewN ?_ _ | refine blk_drew ?_ | refine blk_alloc ?_ _)); exact BK251.out⟩, ⟨by (with_reducible repeat (first | refine blk_drewN ?_ _ | refine blk_drew ?_ | refine blk_alloc ?_ _)); refine blk_far ?_ NB252_253.out _; (with_reducible repeat (first | refine blk_drewN ?_ _ | refine blk_drew ?_ | refine blk_alloc ?_ _)); refine blk_far ?_ NB252_253.out _; (with_reducible repeat (first | refine blk_drewN ?_ _ | refine blk_drew ?_ | refine blk_alloc ?_ _)); exact BK252.out⟩, ⟨by (with_reducible repeat (first | refine blk_drewN ?_ _ | refine blk_drew ?_ | refine blk_alloc ?_ _)); refine blk_put (cs := #[.int .i64 a0_0, .slice none 0 0]) ?_ 1 _ rfl; (with_reducible repeat (first | refine blk_drewN ?_ _ | refine blk_drew ?_ | refine blk_alloc ?_ _)); refine blk_put (cs := #[.int .i64 0, .slice none 0 0]) ?_ 0 _ rfl; (with_reducible repeat (first | refine blk_drewN ?_ _ | refine blk_drew ?_ | refine blk_alloc ?_ _)); exact BK253.out⟩, ⟨by repeat (first | (with_reducible first | exact HB.out | apply below_alloc | apply pw_below_drewN | apply below_drew1 | refine below_set ?_ GE251.out | refine below_set ?_ GE252.out | refine below_set ?_ GE253.out) | exact HB.out)⟩⟩
 case round =>
  clear H'
  try clear c1
  try clear p2
  try clear c4
  try clear c7
  try clear c8
  try clear hcz10_0
  try clear hcz10_1
  try clear hcz5_0
  try clear hcz5_1
  try clear hcz9_0
  try clear hcz9_1
  try clear hfz10_0
  try clear hfz10_1
  try clear hfz5_0
  try clear hfz5_1
  try clear hfz9_0
  try clear hfz9_1
  obtain ⟨x12_1, x254001_1, u254001, rfl, HA, HK1, HO_254001, BK251, BK252, BK253, HB⟩ := hrel
  cases gk with
  | zero => exact absurd HA.out (by simp [impl_clonePost.l0])
  | succ k1 =>
   have H := HA.out
   clear HA
   simp only [impl_clonePost.l0] at H
   by_cases c11 : x12_1 < (l0_1.length : Int)
   ·rw [if_pos c11] at H
    have c11b0 : decide (x12_1 < (l0_1.length : Int)) = true := decide_eq_true c11
    clear c11
    by_cases c12 : 0 ≤ x12_1
    ·rw [if_pos c12] at H
     have c12b0 : decide (0 ≤ x12_1) = true := decide_eq_true c12
     clear c12
     by_cases c13 : x12_1 < (l0_1.length : Int)
     ·rw [if_pos c13] at H
      have c13b0 : decide (x12_1 < (l0_1.length : Int)) = true := decide_eq_true c13
      clear c13
      replace H := Option.bind_eq_some_iff.mp H
      obtain ⟨t256, A140, H⟩ := H
      replace H : (if x254001_1.length < 2513169434916 then (impl_clonePost.l0 k1 l0_1 (l0_1.length : Int) (wrap64 (x12_1 + 1)) a0_0 (x254001_1 ++ [(⟨(rd_T58 l0_1 x12_1).f0, (rd_T58 l0_1 x12_1).f1, (rd_T58 l0_1 x12_1).f2, t256⟩ : S58)])) else (none)) = some (r1, r2) := H
      have A14 := Aside0.mk A140
      clear A140
      by_cases c15 : x254001_1.length < 2513169434916
      ·rw [if_pos c15] at H
       have LMc15 := Aside0.mk c15
       clear c15
       obtain ⟨y259, hy259⟩ : ∃ y_ : List (S58), y_ = (x254001_1 ++ [(⟨(rd_T58 l0_1 x12_1).f0, (rd_T58 l0_1 x12_1).f1, (rd_T58 l0_1 x12_1).f2, t256⟩ : S58)]) := ⟨_, rfl⟩
       replace H : (impl_clonePost.l0 k1 l0_1 (l0_1.length : Int) (wrap64 (x12_1 + 1)) a0_0 y259) = some (r1, r2) := by first | (rw [hy259]; with_reducible exact H) | (have H2_ := (Option.bind_some _ _).symm.trans H; rw [hy259]; with_reducible exact H2_) | (have H2_ := (Option.bind_some _ _).symm.trans H; with_reducible exact H2_) | with_reducible exact H | (rw [hy259]; exact H) | exact H
       have Ny259 := Aside0.mk hy259
       clear hy259
       have H' := Aside0.mk H
       clear H
       have p254 : 0 ≤ (x12_1 : Int) := of_decide_eq_true (by first | (with_reducible assumption) | assumption)
       have q254 : x12_1 < (l0_1.length : Int) := of_decide_eq_true (by first | (with_reducible assumption) | assumption)
       obtain ⟨ad254, A254_3, c254_3, e254, hx254_0, hx254_1, hx254_2, hx254_3, hl254_3, hi254_3⟩ := at_T58 HR0_1.out x12_1 p254 q254
       cases e254
       replace hx254_0 := (HB.out.cell (World.block_lt_of_cell? w _ hx254_0)).trans hx254_0
       replace hx254_1 := (HB.out.cell (World.block_lt_of_cell? w _ hx254_1)).trans hx254_1
       replace hx254_2 := (HB.out.cell (World.block_lt_of_cell? w _ hx254_2)).trans hx254_2
       replace hx254_3 := (HB.out.cell (World.block_lt_of_cell? w _ hx254_3)).trans hx254_3
       have HR254_3 := Aside0.mk hi254_3
       have HC254_3 := Aside0.mk hl254_3
       clear hi254_3 hl254_3
       replace p254 := eq_true p254
       replace q254 := eq_true q254
       go_wp2_with (first | ((with_reducible refine gate_dst (N := 5) rfl ?_); refine box_event ?hg (N := 5) ?hd (cs := #[.string (⟨#[]⟩ : ByteArray), .int .i64 0, .int .i64 0, .slice none 0 0]) (t := 58) ?hr ?_; (case hd => rfl); (case hg => rfl); (case hr => first | (go_simp; done) | (go_simp; rfl)); intro gb255 hg w16 hbox hb; have n0_ := Aside0.mk (Kd.S_below (Kd.S_elderB (by (with_reducible repeat (first | apply Kd.S_alloc | apply Kd.S_drewN | apply Kd.S_drew)); exact HO_254001.out) gb255 (Nat.le_of_eq hg.symm)) hb); have n1_ := Aside0.mk (blk_below (g := gb251) (o := .cells #[.int .i64 a0_0, .slice (some ad254) l0_1.length c0_1] 29 (0, 0)) (by (with_reducible repeat (first | refine blk_drewN ?_ _ | refine blk_drew ?_ | refine blk_alloc ?_ _)); exact BK251.out) hb); have n2_ := Aside0.mk (blk_below (g := gb252) (o := .cells #[.int .i64 0, .slice none 0 0] 29 (0, 0)) (by (with_reducible repeat (first | refine blk_drewN ?_ _ | refine blk_drew ?_ | refine blk_alloc ?_ _)); exact BK252.out) hb); have n3_ := Aside0.mk (blk_below (g := gb253) (o := .cells #[.int .i64 a0_0, u254001] 29 (0, 0)) (by (with_reducible repeat (first | refine blk_drewN ?_ _ | refine blk_drew ?_ | refine blk_alloc ?_ _)); exact BK253.out) hb); have n4_ := Aside0.mk (below_step (by repeat (first | (with_reducible first | exact HB.out | apply below_alloc | apply pw_below_drewN | apply below_drew1 | refine below_set ?_ GE251.out | refine below_set ?_ GE252.out | refine below_set ?_ GE253.out) | exact HB.out)) hb); have n5_ := Aside0.mk (hbox); have n6_ := Aside0.mk ((by rw [hg]; exact (below_size (by repeat (first | (with_reducible first | exact HB.out | apply below_alloc | apply pw_below_drewN | apply below_drew1 | refine below_set ?_ GE251.out | refine below_set ?_ GE252.out | refine below_set ?_ GE253.out) | exact HB.out))) : w.heap.size ≤ gb255)); have n7_ := Aside0.mk ((by rw [hg]; exact (below_size (by repeat (first | (with_reducible first | exact HB.out | apply below_alloc | apply pw_below_drewN | apply below_drew1 | refine below_set ?_ GE251.out | refine below_set ?_ GE252.out | refine below_set ?_ GE253.out) | exact HB.out))) : w.heap.size ≤ gb255)); have n8_ := Aside0.mk ((by rw [hg]; exact Nat.ne_of_lt (blk_lt (g := gb251) (o := .cells #[.int .i64 a0_0, .slice (some ad254) l0_1.length c0_1] 29 (0, 0)) (by (with_reducible repeat (first | refine blk_drewN ?_ _ | refine blk_drew ?_ | refine blk_alloc ?_ _)); exact BK251.out)) : gb251 ≠ gb255)); have n9_ := Aside0.mk ((by rw [hg]; exact Nat.ne_of_gt (blk_lt (g := gb251) (o := .cells #[.int .i64 a0_0, .slice (some ad254) l0_1.length c0_1] 29 (0, 0)) (by (with_reducible repeat (first | refine blk_drewN ?_ _ | refine blk_drew ?_ | refine blk_alloc ?_ _)); exact BK251.out)) : gb255 ≠ gb251)); have n10_ := Aside0.mk ((by rw [hg]; exact Nat.ne_of_lt (blk_lt (g := gb252) (o := .cells #[.int .i64 0, .slice none 0 0] 29 (0, 0)) (by (with_reducible repeat (first | refine blk_drewN ?_ _ | refine blk_drew ?_ | refine blk_alloc ?_ _)); exact BK252.out)) : gb252 ≠ gb255)); have n11_ := Aside0.mk ((by rw [hg]; exact Nat.ne_of_gt (blk_lt (g := gb252) (o := .cells #[.int .i64 0, .slice none 0 0] 29 (0, 0)) (by (with_reducible repeat (first | refine blk_drewN ?_ _ | refine blk_drew ?_ | refine blk_alloc ?_ _)); exact BK252.out)) : gb255 ≠ gb252)); have n12_ := Aside0.mk ((by rw [hg]; exact Nat.ne_of_lt (blk_lt (g := gb253) (o := .cells #[.int .i64 a0_0, u254001] 29 (0, 0)) (by (with_reducible repeat (first | refine blk_drewN ?_ _ | refine blk_drew ?_ | refine blk_alloc ?_ _)); exact BK253.out)) : gb253 ≠ gb255)); have n13_ := Aside0.mk ((by rw [hg]; exact Nat.ne_of_gt (blk_lt (g := gb253) (o := .cells #[.int .i64 a0_0, u254001] 29 (0, 0)) (by (with_reducible repeat (first | refine blk_drewN ?_ _ | refine blk_drew ?_ | refine blk_alloc ?_ _)); exact BK253.out)) : gb255 ≠ gb253)); clear HO_254001; clear BK251; clear BK252; clear BK253; clear HB; have HO_254001 := n0_; have BK251 := n1_; have BK252 := n2_; have BK253 := n3_; have HB := n4_; have BK255 := n5_; have GW255 := n6_; have GE255 := n7_; have NB251_255 := n8_; have NB255_251 := n9_; have NB252_255 := n10_; have NB255_252 := n11_; have NB253_255 := n12_; have NB255_253 := n13_; clear n0_ n1_ n2_ n3_ n4_ n5_ n6_ n7_ n8_ n9_ n10_ n11_ n12_ n13_; clear hb hbox hg; have hnb17 := NB255_251.out; have hnc17 := NB251_255.out; have hnb18 := NB255_252.out; have hnc18 := NB252_255.out; have hnb19 := NB255_253.out; have hnc19 := NB253_255.out; have hcz20_0 : w16.cell? ⟨gb255, 0, none⟩ = some (.string (⟨#[]⟩ : ByteArray)) := (blk_cell BK255.out 0).trans rfl; have hcz20_1 : w16.cell? ⟨gb255, 1, none⟩ = some (.int .i64 0) := (blk_cell BK255.out 1).trans rfl; have hcz20_2 : w16.cell? ⟨gb255, 2, none⟩ = some (.int .i64 0) := (blk_cell BK255.out 2).trans rfl; have hcz20_3 : w16.cell? ⟨gb255, 3, none⟩ = some (.slice none 0 0) := (blk_cell BK255.out 3).trans rfl; have hfz20_0 := blk_frozen BK255.out 0; have hfz20_1 := blk_frozen BK255.out 1; have hfz20_2 := blk_frozen BK255.out 2; have hfz20_3 := blk_frozen BK255.out 3) | ((with_reducible refine gate_callee (f := 98) rfl ?_); refine goesL_ (some 18) rfl rfl Try.func98 (by kernel_rfl) rfl #[.slice A254_3 ((rd_T58 l0_1 x12_1).f3).length c254_3] rfl (by (try simp only [List.map_toArray, List.map_cons, List.map_nil]); first | done | rfl | (simp only [List.length_drop, List.length_take]; rfl)) ?_; (with_reducible refine (slices_CloneP.calls _ _ ((rd_T58 l0_1 x12_1).f3) t256 _ ?side1 ?side2 A14.out).mono ?_); (case side1 => exact Kd.C_below HR254_3.out (by repeat (first | (with_reducible first | exact HB.out | apply below_alloc | apply pw_below_drewN | apply below_drew1 | refine below_set ?_ GE251.out | refine below_set ?_ GE252.out | refine below_set ?_ GE253.out | refine below_set ?_ GE255.out) | exact HB.out))); (case side2 => exact HC254_3.out); rintro e w21 ⟨v257, rfl, ho0, hb⟩; refine ⟨_, rfl, ?_⟩; have n0_ := Aside0.mk (Kd.S_elder' (by (with_reducible repeat (first | apply Kd.S_alloc | apply Kd.S_drewN | apply Kd.S_drew)); exact (Kd.S_mono (Kd.S_far (p := ⟨gb255, 3, none⟩) (Kd.S_far (p := ⟨gb255, 2, none⟩) (Kd.S_far (p := ⟨gb255, 1, none⟩) (Kd.S_far (p := ⟨gb255, 0, none⟩) (Kd.S_mono HO_254001.out (fun k_ hk => (⟨hk, hk.2⟩ : _ ∧ k_ ≠ gb255))) (fun _ hk => hk.2) (.string ((rd_T58 l0_1 x12_1).f0))) (fun _ hk => hk.2) (.int .i64 ((rd_T58 l0_1 x12_1).f1))) (fun _ hk => hk.2) (.int .i64 ((rd_T58 l0_1 x12_1).f2))) (fun _ hk => hk.2) (.slice A254_3 ((rd_T58 l0_1 x12_1).f3).length c254_3)) (fun _ h_ => h_.1))) (Kd.R_base ho0) hb); have n1_ := Aside0.mk (Kd.R_lower ho0 (below_size (by repeat (first | (with_reducible first | exact HB.out | apply below_alloc | apply pw_below_drewN | apply below_drew1 | refine below_set ?_ GE251.out | refine below_set ?_ GE252.out | refine below_set ?_ GE253.out | refine below_set ?_ GE255.out) | exact HB.out)))); have n2_ := Aside0.mk (blk_below (g := gb251) (o := .cells #[.int .i64 a0_0, .slice (some ad254) l0_1.length c0_1] 29 (0, 0)) (by (with_reducible repeat (first | refine blk_drewN ?_ _ | refine blk_drew ?_ | refine blk_alloc ?_ _)); refine blk_far ?_ NB251_255.out _; (with_reducible repeat (first | refine blk_drewN ?_ _ | refine blk_drew ?_ | refine blk_alloc ?_ _)); refine blk_far ?_ NB251_255.out _; (with_reducible repeat (first | refine blk_drewN ?_ _ | refine blk_drew ?_ | refine blk_alloc ?_ _)); refine blk_far ?_ NB251_255.out _; (with_reducible repeat (first | refine blk_drewN ?_ _ | refine blk_drew ?_ | refine blk_alloc ?_ _)); refine blk_far ?_ NB251_255.out _; (with_reducible repeat (first | refine blk_drewN ?_ _ | refine blk_drew ?_ | refine blk_alloc ?_ _)); exact BK251.out) hb); have n3_ := Aside0.mk (blk_below (g := gb252) (o := .cells #[.int .i64 0, .slice none 0 0] 29 (0, 0)) (by (with_reducible repeat (first | refine blk_drewN ?_ _ | refine blk_drew ?_ | refine blk_alloc ?_ _)); refine blk_far ?_ NB252_255.out _; (with_reducible repeat (first | refine blk_drewN ?_ _ | refine blk_drew ?_ | refine blk_alloc ?_ _)); refine blk_far ?_ NB252_255.out _; (with_reducible repeat (first | refine blk_drewN ?_ _ | refine blk_drew ?_ | refine blk_alloc ?_ _)); refine blk_far ?_ NB252_255.out _; (with_reducible repeat (first | refine blk_drewN ?_ _ | refine blk_drew ?_ | refine blk_alloc ?_ _)); refine blk_far ?_ NB252_255.out _; (with_reducible repeat (first | refine blk_drewN ?_ _ | refine blk_drew ?_ | refine blk_alloc ?_ _)); exact BK252.out) hb); have n4_ := Aside0.mk (blk_below (g := gb253) (o := .cells #[.int .i64 a0_0, u254001] 29 (0, 0)) (by (with_reducible repeat (first | refine blk_drewN ?_ _ | refine blk_drew ?_ | refine blk_alloc ?_ _)); refine blk_far ?_ NB253_255.out _; (with_reducible repeat (first | refine blk_drewN ?_ _ | refine blk_drew ?_ | refine blk_alloc ?_ _)); refine blk_far ?_ NB253_255.out _; (with_reducible repeat (first | refine blk_drewN ?_ _ | refine blk_drew ?_ | refine blk_alloc ?_ _)); refine blk_far ?_ NB253_255.out _; (with_reducible repeat (first | refine blk_drewN ?_ _ | refine blk_drew ?_ | refine blk_alloc ?_ _)); refine blk_far ?_ NB253_255.out _; (with_reducible repeat (first | refine blk_drewN ?_ _ | refine blk_drew ?_ | refine blk_alloc ?_ _)); exact BK253.out) hb); have n5_ := Aside0.mk (blk_below (g := gb255) (o := .cells #[.string ((rd_T58 l0_1 x12_1).f0), .int .i64 ((rd_T58 l0_1 x12_1).f1), .int .i64 ((rd_T58 l0_1 x12_1).f2), .slice A254_3 ((rd_T58 l0_1 x12_1).f3).length c254_3] 58 (0, 0)) (by (with_reducible repeat (first | refine blk_drewN ?_ _ | refine blk_drew ?_ | refine blk_alloc ?_ _)); refine blk_put (cs := #[.string ((rd_T58 l0_1 x12_1).f0), .int .i64 ((rd_T58 l0_1 x12_1).f1), .int .i64 ((rd_T58 l0_1 x12_1).f2), .slice none 0 0]) ?_ 3 _ rfl; (with_reducible repeat (first | refine blk_drewN ?_ _ | refine blk_drew ?_ | refine blk_alloc ?_ _)); refine blk_put (cs := #[.string ((rd_T58 l0_1 x12_1).f0), .int .i64 ((rd_T58 l0_1 x12_1).f1), .int .i64 0, .slice none 0 0]) ?_ 2 _ rfl; (with_reducible repeat (first | refine blk_drewN ?_ _ | refine blk_drew ?_ | refine blk_alloc ?_ _)); refine blk_put (cs := #[.string ((rd_T58 l0_1 x12_1).f0), .int .i64 0, .int .i64 0, .slice none 0 0]) ?_ 1 _ rfl; (with_reducible repeat (first | refine blk_drewN ?_ _ | refine blk_drew ?_ | refine blk_alloc ?_ _)); refine blk_put (cs := #[.string (⟨#[]⟩ : ByteArray), .int .i64 0, .int .i64 0, .slice none 0 0]) ?_ 0 _ rfl; (with_reducible repeat (first | refine blk_drewN ?_ _ | refine blk_drew ?_ | refine blk_alloc ?_ _)); exact BK255.out) hb); have n6_ := Aside0.mk (below_step (by repeat (first | (with_reducible first | exact HB.out | apply below_alloc | apply pw_below_drewN | apply below_drew1 | refine below_set ?_ GE251.out | refine below_set ?_ GE252.out | refine below_set ?_ GE253.out | refine below_set ?_ GE255.out) | exact HB.out)) hb); clear HO_254001; clear BK251; clear BK252; clear BK253; clear BK255; clear HB; have HO_254001 := n0_; have HO258 := n1_; have BK251 := n2_; have BK252 := n3_; have BK253 := n4_; have BK255 := n5_; have HB := n6_; clear n0_ n1_ n2_ n3_ n4_ n5_ n6_; (try clear hb); (try clear hb2); (try clear hk); (try clear hi); (try clear ho0); obtain ⟨Ao22, co22, eo22⟩ := Kd.R_slice HO258.out; subst eo22; have hcz23_0 : w21.cell? ⟨gb255, 0, none⟩ = some (.string ((rd_T58 l0_1 x12_1).f0)) := (blk_cell BK255.out 0).trans rfl; have hcz23_1 : w21.cell? ⟨gb255, 1, none⟩ = some (.int .i64 ((rd_T58 l0_1 x12_1).f1)) := (blk_cell BK255.out 1).trans rfl; have hcz23_2 : w21.cell? ⟨gb255, 2, none⟩ = some (.int .i64 ((rd_T58 l0_1 x12_1).f2)) := (blk_cell BK255.out 2).trans rfl; have hcz23_3 : w21.cell? ⟨gb255, 3, none⟩ = some (.slice A254_3 ((rd_T58 l0_1 x12_1).f3).length c254_3) := (blk_cell BK255.out 3).trans rfl; have hfz23_0 := blk_frozen BK255.out 0; have hfz23_1 := blk_frozen BK255.out 1; have hfz23_2 := blk_frozen BK255.out 2; have hfz23_3 := blk_frozen BK255.out 3) | ((with_reducible refine gate_store (t := 52) (p := 19) rfl ?_); refine store_event (t := 52) (p := 19) (v := ?vo_w24) (w1 := (w21.setCell ⟨gb255, 3, none⟩ (.slice Ao22 t256.length co22))) ?hg ?ho ?hn ?hr ?_; (case ho => rfl); (case hg => rfl); (case hn => rfl); (case hr => first | (go_simp; done) | (go_simp; rfl)); intro w24 hw; have n0_ : Aside0 (Kd.S k58 58 w24 w.heap.size (fun k_ => some k_ ≠ (.slice Ao22 t256.length co22 : Value).ownBlock ∧ k_ ≠ gb255) u254001 x254001_1) := ⟨(by rw [hw]; exact (by (with_reducible repeat (first | apply Kd.S_alloc | apply Kd.S_drewN | apply Kd.S_drew)); exact Kd.S_mono (Kd.S_far (p := ⟨gb255, 3, none⟩) (Kd.S_mono HO_254001.out (fun k_ hk => (⟨hk, hk.1.2⟩ : _ ∧ k_ ≠ gb255))) (fun _ hk => hk.2) (.slice Ao22 t256.length co22)) (fun _ hk => ⟨hk.1.2, hk.1.1.2⟩)))⟩; have n1_ : Aside0 (Kd.R k60 60 w24 w.heap.size (fun _ => True) (.slice Ao22 t256.length co22) t256) := ⟨(by rw [hw]; exact (by (with_reducible repeat (first | apply Kd.R_alloc | apply Kd.R_drewN | apply Kd.R_drew)); exact Kd.R_mono (Kd.R_far (p := ⟨gb255, 3, none⟩) (Kd.R_types HO258.out BK255.out (by decide)) (fun _ hk => hk.2) (.slice Ao22 t256.length co22)) (fun _ hk => trivial)))⟩; have n2_ : Aside0 (w24.heap[gb251]? = some (.cells #[.int .i64 a0_0, .slice (some ad254) l0_1.length c0_1] 29 (0, 0))) := ⟨(by rw [hw]; exact (by (with_reducible repeat (first | refine blk_drewN ?_ _ | refine blk_drew ?_ | refine blk_alloc ?_ _)); refine blk_far ?_ NB251_255.out _; (with_reducible repeat (first | refine blk_drewN ?_ _ | refine blk_drew ?_ | refine blk_alloc ?_ _)); exact BK251.out))⟩; have n3_ : Aside0 (w24.heap[gb252]? = some (.cells #[.int .i64 0, .slice none 0 0] 29 (0, 0))) := ⟨(by rw [hw]; exact (by (with_reducible repeat (first | refine blk_drewN ?_ _ | refine blk_drew ?_ | refine blk_alloc ?_ _)); refine blk_far ?_ NB252_255.out _; (with_reducible repeat (first | refine blk_drewN ?_ _ | refine blk_drew ?_ | refine blk_alloc ?_ _)); exact BK252.out))⟩; have n4_ : Aside0 (w24.heap[gb253]? = some (.cells #[.int .i64 a0_0, u254001] 29 (0, 0))) := ⟨(by rw [hw]; exact (by (with_reducible repeat (first | refine blk_drewN ?_ _ | refine blk_drew ?_ | refine blk_alloc ?_ _)); refine blk_far ?_ NB253_255.out _; (with_reducible repeat (first | refine blk_drewN ?_ _ | refine blk_drew ?_ | refine blk_alloc ?_ _)); exact BK253.out))⟩; have n5_ : Aside0 (w24.heap[gb255]? = some (.cells #[.string ((rd_T58 l0_1 x12_1).f0), .int .i64 ((rd_T58 l0_1 x12_1).f1), .int .i64 ((rd_T58 l0_1 x12_1).f2), .slice Ao22 t256.length co22] 58 (0, 0))) := ⟨(by rw [hw]; exact (by (with_reducible repeat (first | refine blk_drewN ?_ _ | refine blk_drew ?_ | refine blk_alloc ?_ _)); refine blk_put (cs := #[.string ((rd_T58 l0_1 x12_1).f0), .int .i64 ((rd_T58 l0_1 x12_1).f1), .int .i64 ((rd_T58 l0_1 x12_1).f2), .slice A254_3 ((rd_T58 l0_1 x12_1).f3).length c254_3]) ?_ 3 _ rfl; (with_reducible repeat (first | refine blk_drewN ?_ _ | refine blk_drew ?_ | refine blk_alloc ?_ _)); exact BK255.out))⟩; have n6_ : Aside0 (Below w.heap.size w w24) := ⟨(by rw [hw]; exact (by repeat (first | (with_reducible first | exact HB.out | apply below_alloc | apply pw_below_drewN | apply below_drew1 | refine below_set ?_ GE251.out | refine below_set ?_ GE252.out | refine below_set ?_ GE253.out | refine below_set ?_ GE255.out) | exact HB.out)))⟩; clear hw; clear HO_254001; clear HO258; clear BK251; clear BK252; clear BK253; clear BK255; clear HB; have HO_254001 := n0_; have HO258 := n1_; have BK251 := n2_; have BK252 := n3_; have BK253 := n4_; have BK255 := n5_; have HB := n6_; clear n0_ n1_ n2_ n3_ n4_ n5_ n6_; have hnb25 := NB253_251.out; have hnc25 := NB251_253.out; have hnb26 := NB253_252.out; have hnc26 := NB252_253.out; have hcz27_0 : w24.cell? ⟨gb253, 0, none⟩ = some (.int .i64 a0_0) := (blk_cell BK253.out 0).trans rfl; have hcz27_1 : w24.cell? ⟨gb253, 1, none⟩ = some (u254001) := (blk_cell BK253.out 1).trans rfl; have hfz27_0 := blk_frozen BK253.out 0; have hfz27_1 := blk_frozen BK253.out 1; have hcz28_0 : w24.cell? ⟨gb255, 0, none⟩ = some (.string ((rd_T58 l0_1 x12_1).f0)) := (blk_cell BK255.out 0).trans rfl; have hcz28_1 : w24.cell? ⟨gb255, 1, none⟩ = some (.int .i64 ((rd_T58 l0_1 x12_1).f1)) := (blk_cell BK255.out 1).trans rfl; have hcz28_2 : w24.cell? ⟨gb255, 2, none⟩ = some (.int .i64 ((rd_T58 l0_1 x12_1).f2)) := (blk_cell BK255.out 2).trans rfl; have hcz28_3 : w24.cell? ⟨gb255, 3, none⟩ = some (.slice Ao22 t256.length co22) := (blk_cell BK255.out 3).trans rfl; have hfz28_0 := blk_frozen BK255.out 0; have hfz28_1 := blk_frozen BK255.out 1; have hfz28_2 := blk_frozen BK255.out 2; have hfz28_3 := blk_frozen BK255.out 3) | ((with_reducible refine gate_builtin (b := .append) (xs := #[.tmp 21, .tmp 23]) rfl ?_); at_builtin; refine Kd.S_append k58 (w0 := w) w.heap.size rfl (.tmp 21) (.tmp 23) 27 58 (.agg #[(.string ⟨#[]⟩), (.int .i64 0), (.int .i64 0), (.slice none 0 0)]) 56 rfl Try.underlying27 info58 rfl (by decide) (by omega) u254001 x254001_1 (⟨(rd_T58 l0_1 x12_1).f0, (rd_T58 l0_1 x12_1).f1, (rd_T58 l0_1 x12_1).f2, t256⟩ : S58) [.string ((rd_T58 l0_1 x12_1).f0), .int .i64 ((rd_T58 l0_1 x12_1).f1), .int .i64 ((rd_T58 l0_1 x12_1).f2), .slice Ao22 t256.length co22] (fun k_ => k_ ≠ gb255) (fun k_ => some k_ = (.slice Ao22 t256.length co22 : Value).ownBlock) rfl rfl ?aP (fun k_ hk_ => ((Kd.R_mono (ok' := fun k_ => ((fun k_ => k_ ≠ gb255)) k_ ∧ some k_ ≠ (u254001 : Value).ownBlock) (Kd.R_types (Kd.R_apart' (HO258.out) (Kd.S_typed HO_254001.out) (by decide)) BK255.out (by decide)) (fun k_ hk => ⟨hk.2, hk.1.2⟩))).1 k_ hk_.symm) ?aF ?aO ?aB ?aS ?aL ?_; (case aP => exact k58_mkM _ _ _ (⟨(rd_T58 l0_1 x12_1).f0, (rd_T58 l0_1 x12_1).f1, (rd_T58 l0_1 x12_1).f2, t256⟩ : S58) (Kd.R_mono (Kd.R_tight rfl (Kd.R_mono (ok' := fun k_ => ((fun k_ => k_ ≠ gb255)) k_ ∧ some k_ ≠ (u254001 : Value).ownBlock) (Kd.R_types (Kd.R_apart' (HO258.out) (Kd.S_typed HO_254001.out) (by decide)) BK255.out (by decide)) (fun k_ hk => ⟨hk.2, hk.1.2⟩))) (fun _ h_ => h_))); (case aB => exact (by repeat (first | (with_reducible first | exact HB.out | apply below_alloc | apply pw_below_drewN | apply below_drew1 | refine below_set ?_ GE251.out | refine below_set ?_ GE252.out | refine below_set ?_ GE253.out | refine below_set ?_ GE255.out) | exact HB.out))); (case aF => exact (fun k_ hk => Kd.freshB (g := gb255) (o := .cells #[.string ((rd_T58 l0_1 x12_1).f0), .int .i64 ((rd_T58 l0_1 x12_1).f1), .int .i64 ((rd_T58 l0_1 x12_1).f2), .slice Ao22 t256.length co22] 58 (0, 0)) (by (with_reducible repeat (first | refine blk_drewN ?_ _ | refine blk_drew ?_ | refine blk_alloc ?_ _)); exact BK255.out) k_ hk)); (case aO => exact (by (with_reducible repeat (first | apply Kd.S_alloc | apply Kd.S_drewN | apply Kd.S_drew)); exact Kd.S_mono HO_254001.out (fun k_ hk => ⟨hk.2, fun e_ => hk.1 e_⟩))); (case aS => exact (below_size (by repeat (first | (with_reducible first | exact HB.out | apply below_alloc | apply pw_below_drewN | apply below_drew1 | refine below_set ?_ GE251.out | refine below_set ?_ GE252.out | refine below_set ?_ GE253.out | refine below_set ?_ GE255.out) | exact HB.out)))); (case aL => have := LMc15.out; omega); intro v260 w29 ho hb hg hat; rw [← Ny259.out] at ho; have n0_ := Aside0.mk (blk_grown (g := gb251) (o := .cells #[.int .i64 a0_0, .slice (some ad254) l0_1.length c0_1] 29 (0, 0)) (by (with_reducible repeat (first | refine blk_drewN ?_ _ | refine blk_drew ?_ | refine blk_alloc ?_ _)); exact BK251.out) hg (Kd.S_ne HO_254001.out BK251.out (by decide))); have n1_ := Aside0.mk (blk_grown (g := gb252) (o := .cells #[.int .i64 0, .slice none 0 0] 29 (0, 0)) (by (with_reducible repeat (first | refine blk_drewN ?_ _ | refine blk_drew ?_ | refine blk_alloc ?_ _)); exact BK252.out) hg (Kd.S_ne HO_254001.out BK252.out (by decide))); have n2_ := Aside0.mk (blk_grown (g := gb253) (o := .cells #[.int .i64 a0_0, u254001] 29 (0, 0)) (by (with_reducible repeat (first | refine blk_drewN ?_ _ | refine blk_drew ?_ | refine blk_alloc ?_ _)); exact BK253.out) hg (Kd.S_ne HO_254001.out BK253.out (by decide))); have n3_ := Aside0.mk (blk_grown (g := gb255) (o := .cells #[.string ((rd_T58 l0_1 x12_1).f0), .int .i64 ((rd_T58 l0_1 x12_1).f1), .int .i64 ((rd_T58 l0_1 x12_1).f2), .slice Ao22 t256.length co22] 58 (0, 0)) (by (with_reducible repeat (first | refine blk_drewN ?_ _ | refine blk_drew ?_ | refine blk_alloc ?_ _)); exact BK255.out) hg (Kd.S_away HO_254001.out (fun _ hk => hk.2))); have n4_ := Aside0.mk (hb); have n5_ := Aside0.mk (ho); clear BK251; clear BK252; clear BK253; clear BK255; clear HB; clear HO_254001; clear HO258; have BK251 := n0_; have BK252 := n1_; have BK253 := n2_; have BK255 := n3_; have HB := n4_; have HO261 := n5_; clear n0_ n1_ n2_ n3_ n4_ n5_; clear ho hb hg hat; obtain ⟨Ao30, co30, eo30⟩ := Kd.S_slice HO261.out; subst eo30; have hcz31_0 : w29.cell? ⟨gb253, 0, none⟩ = some (.int .i64 a0_0) := (blk_cell BK253.out 0).trans rfl; have hcz31_1 : w29.cell? ⟨gb253, 1, none⟩ = some (u254001) := (blk_cell BK253.out 1).trans rfl; have hfz31_0 := blk_frozen BK253.out 0; have hfz31_1 := blk_frozen BK253.out 1))
       go_roundg k1
       case measure => have := HK1.out; omega
       case rel => exact ⟨(wrap64 (x12_1 + 1)), (y259), (.slice Ao30 y259.length co30), (by first | rfl | (simp; done) | (simp [*]; done)), H', ⟨by have := HK1.out; omega⟩, ⟨by (with_reducible repeat (first | apply Kd.S_alloc | apply Kd.S_drewN | apply Kd.S_drew)); exact Kd.S_mono (Kd.S_far (p := ⟨gb253, 1, none⟩) (Kd.S_types HO261.out BK253.out (by decide)) (fun _ hk => hk.2) (.slice Ao30 y259.length co30)) (fun _ hk => trivial)⟩, ⟨by (with_reducible repeat (first | refine blk_drewN ?_ _ | refine blk_drew ?_ | refine blk_alloc ?_ _)); refine blk_far ?_ NB251_253.out _; (with_reducible repeat (first | refine blk_drewN ?_ _ | refine blk_drew ?_ | refine blk_alloc ?_ _)); exact BK251.out⟩, ⟨by (with_reducible repeat (first | refine blk_drewN ?_ _ | refine blk_drew ?_ | refine blk_alloc ?_ _)); refine blk_far ?_ NB252_253.out _; (with_reducible repeat (first | refine blk_drewN ?_ _ | refine blk_drew ?_ | refine blk_alloc ?_ _)); exact BK252.out⟩, ⟨by (with_reducible repeat (first | refine blk_drewN ?_ _ | refine blk_drew ?_ | refine blk_alloc ?_ _)); refine blk_put (cs := #[.int .i64 a0_0, u254001]) ?_ 1 _ rfl; (with_reducible repeat (first | refine blk_drewN ?_ _ | refine blk_drew ?_ | refine blk_alloc ?_ _)); exact BK253.out⟩, ⟨by repeat (first | (with_reducible first | exact HB.out | apply below_alloc | apply pw_below_drewN | apply below_drew1 | refine below_set ?_ GE251.out | refine below_set ?_ GE252.out | refine below_set ?_ GE253.out | refine below_set ?_ GE255.out) | exact HB.out)⟩⟩
      ·rw [if_neg c15] at H
       exact absurd H (by simp)
     ·rw [if_neg c13] at H
      exact absurd H (by simp)
    ·rw [if_neg c12] at H
     exact absurd H (by simp)
   ·rw [if_neg c11] at H
    have c11b0 : decide (x12_1 < (l0_1.length : Int)) = false := decide_eq_false c11
    clear c11
    simp only [Option.some.injEq, Prod.mk.injEq] at H
    obtain ⟨rfl, rfl⟩ := H
    have hnb32 := NB253_251.out
    have hnc32 := NB251_253.out
    have hnb33 := NB253_252.out
    have hnc33 := NB252_253.out
    have hcz34_0 : wr.cell? ⟨gb253, 0, none⟩ = some (.int .i64 a0_0) := (blk_cell BK253.out 0).trans rfl
    have hcz34_1 : wr.cell? ⟨gb253, 1, none⟩ = some (u254001) := (blk_cell BK253.out 1).trans rfl
    have hfz34_0 := blk_frozen BK253.out 0
    have hfz34_1 := blk_frozen BK253.out 1
    have hnb35 := NB252_251.out
    have hnc35 := NB251_252.out
    have hcz36_0 : wr.cell? ⟨gb252, 0, none⟩ = some (.int .i64 0) := (blk_cell BK252.out 0).trans rfl
    have hcz36_1 : wr.cell? ⟨gb252, 1, none⟩ = some (.slice none 0 0) := (blk_cell BK252.out 1).trans rfl
    have hfz36_0 := blk_frozen BK252.out 0
    have hfz36_1 := blk_frozen BK252.out 1
    obtain ⟨Ao37, co37, eo37⟩ := Kd.S_slice HO_254001.out
    subst eo37
    go_wp2
    refine bodyPost_ret (results_cell_row rfl _ _ gb252 29 #[.int .i64 a0_0, .slice Ao37 x254001_1.length co37] (0, 0) _ rfl (by (with_reducible repeat (first | refine blk_drewN ?_ _ | refine blk_drew ?_ | refine blk_alloc ?_ _)); refine blk_put (cs := #[.int .i64 a0_0, .slice none 0 0]) ?_ 1 _ rfl; (with_reducible repeat (first | refine blk_drewN ?_ _ | refine blk_drew ?_ | refine blk_alloc ?_ _)); refine blk_put (cs := #[.int .i64 0, .slice none 0 0]) ?_ 0 _ rfl; (with_reducible repeat (first | refine blk_drewN ?_ _ | refine blk_drew ?_ | refine blk_alloc ?_ _)); exact BK252.out) Try.underlying29 rfl (by kernel_rfl)) rfl ?_
    exact ⟨_, by first | rfl | (simp [errW_none, errW_some] <;> rfl) | (simp [*, errW_none, errW_some] <;> rfl), by (with_reducible repeat (first | apply Kd.S_alloc | apply Kd.S_drewN | apply Kd.S_drew)); exact Kd.S_mono (Kd.S_far (p := ⟨gb252, 1, none⟩) (Kd.S_far (p := ⟨gb252, 0, none⟩) (Kd.S_types HO_254001.out BK252.out (by decide)) (fun _ hk => hk.2) (.int .i64 a0_0)) (fun _ hk => hk.2) (.slice Ao37 x254001_1.length co37)) (fun _ hk => trivial), by repeat (first | (with_reducible first | exact HB.out | apply below_alloc | apply pw_below_drewN | apply below_drew1 | refine below_set ?_ GE251.out | refine below_set ?_ GE252.out | refine below_set ?_ GE253.out) | exact HB.out)⟩

/-! ### impl_WithoutRoom: function 43 (by hand; numbers of the seat jaa) -/
set_option maxHeartbeats 2000000 in
/-- The place of the first parcel that a function holds of. -/
theorem indexFuncP (p : S60 → Bool) (fn : Nat) (lb : Array Value) (g c : Nat) (zs : List S60) (w : World)
  (hp : ∀ (W : World) (x : S60), Below w.heap.size w W → Calls Try.prog fn (#[.agg #[.int .i64 x.f0, .int .i64 x.f1]] ++ lb) W fun e w' => e = .returned (.bool (p x)) ∧ Below w.heap.size w w')
  (eg : ∀ args w, (callFunc fn args).run Try.prog w = .ok (.enter fn args) w) (hbig : zs.length ≤ 9223372036854775807) (hb : g < w.heap.size)
  (hc : ∀ j, j < zs.length → w.cell? ⟨g, j * 2, none⟩ = some (.int .i64 (zs[j]!).f0) ∧ w.cell? ⟨g, j * 2 + 1, none⟩ = some (.int .i64 (zs[j]!).f1)) :
  Calls Try.prog 102 #[.slice (some ⟨g, 0, none⟩) zs.length c, .func (.func fn) #[] lb] w fun e w' => e = .returned (.int .i64 (Lib.idxBy (fun _ y => p y) zs default)) ∧ Below w.heap.size w w' := by
 have hrow : ∀ (W : World), Below w.heap.size w W → ∀ j, j < zs.length → W.cell? ⟨g, j * 2, none⟩ = some (.int .i64 (zs[j]!).f0) ∧ W.cell? ⟨g, j * 2 + 1, none⟩ = some (.int .i64 (zs[j]!).f1) := fun W hW j hj =>
  ⟨(hW.cell (p := ⟨g, j * 2, none⟩) hb).trans (hc j hj).1, (hW.cell (p := ⟨g, j * 2 + 1, none⟩) hb).trans (hc j hj).2⟩
 clear hc
 go_enter Try.func102, Try.ntmps102
 go_wp2
 go_loopg [5, 8] zs.length (fun gg _ s8 wr => ∃ kk : Nat, kk ≤ zs.length ∧ zs.length - kk ≤ gg ∧ s8 = .int .i64 kk ∧ Aside0 (Below w.heap.size w wr) ∧ Aside0 (∀ j, j < kk → p zs[j]! = false))
 case atStart => exact ⟨0, Nat.zero_le _, by omega, rfl, ⟨Below.refl _ w⟩, ⟨fun j hj => absurd hj (Nat.not_lt_zero _)⟩⟩
 case round =>
  obtain ⟨kk, hkk, hg, rfl, BW, A⟩ := hrel
  by_cases hlt : kk < zs.length
  ·have hltz : (kk : Int) < (zs.length : Int) := by omega
   obtain ⟨l2, l3⟩ := hrow wr BW.out kk (by omega)
   have hcall := hp wr zs[kk]! BW.out
   clear hrow hp
   generalize hy : zs[kk]! = y at l2 l3 hcall
   have B := Aside0.mk hy
   clear hy
   cases hq : p y with
   | true =>
    rw [hq] at hcall
    go_wp2_with (go_at_fn fn; refine hcall.mono ?_; rintro e w' ⟨rfl, hb'⟩)
    go_ret
    refine ⟨?_, hb'⟩
    have := Lib.idxBy_hit (fun _ y => p y) zs zs.length kk default hlt (Nat.le_refl _) (by show p zs[kk]! = true; rw [B.out]; exact hq) A.out
    rw [List.take_length] at this
    rw [this]
    rfl
   | false =>
    rw [hq] at hcall
    go_wp2_with (go_at_fn fn; refine hcall.mono ?_; rintro e w' ⟨rfl, hb'⟩)
    go_roundg (zs.length - (kk + 1))
    case measure => omega
    case rel =>
     refine ⟨kk + 1, by omega, by omega, by go_num, ⟨hb'⟩, ⟨fun j hj => ?_⟩⟩
     by_cases e : j = kk
     ·subst e
      rw [B.out]; exact hq
     ·exact A.out j (by omega)
  ·have hltz : ¬ (kk : Int) < (zs.length : Int) := by omega
   have : kk = zs.length := by omega
   subst this
   go_wp2
   go_ret
   refine ⟨?_, BW.out⟩
   have := Lib.idxBy_miss (fun _ y => p y) zs zs.length default A.out
   rw [List.take_length] at this
   rw [this]
   rfl
set_option maxHeartbeats 2000000 in
theorem indexFuncP_nil (fv : Value) (w : World) : Calls Try.prog 102 #[.slice none 0 0, fv] w fun e w' => e = .returned (.int .i64 (-1)) ∧ w' = w := by
 go_enter Try.func102, Try.ntmps102
 go_wp2
 go_loop [5, 8] (fun _ i => i = .int .i64 0) (fun _ _ => 0)
 case atStart => rfl
 case round =>
  obtain rfl := hrel
  go_wp2
  go_ret
  exact ⟨rfl, rfl⟩
theorem flat_filter_snoc (q : S60 → Bool) (l : List S60) (j : Nat) (hj : j < l.length) : (l.take (j + 1)).filter q = (l.take j).filter q ++ (if q l[j]! = true then [l[j]!] else []) := by
 rw [List.take_succ_eq_append_getElem hj, List.filter_append, getElem!_pos l j hj]
 by_cases c : q l[j] = true
 ·rw [if_pos c, List.filter_cons, if_pos c, List.filter_nil]
 ·rw [if_neg c, List.filter_cons, if_neg c, List.filter_nil]
theorem filter_none (q : S60 → Bool) (l : List S60) (j : Nat) (hj : j ≤ l.length) (h : ∀ t, t < j → q l[t]! = true) : (l.take j).filter q = l.take j := by
 rw [List.filter_eq_self]
 intro x hx
 obtain ⟨t, ht, rfl⟩ := List.mem_iff_getElem.1 hx
 have ht2 : t < j := by rw [List.length_take] at ht; omega
 have := h t ht2
 rw [getElem!_pos l t (by omega)] at this
 rw [List.getElem_take]; exact this
/-- How the row's cells stand before round j: what was kept of the first j lies ahead, from j on all is as it was. -/
structure KeepSt (l : List S60) (q : S60 → Bool) (cap : Nat) (cur : Array Value) (j i : Nat) : Prop where
 len : i = ((l.take j).filter q).length
 size : cur.size = cap * 2
 low : cur.toList.take (i * 2) = ((l.take j).filter q).flatMap encP
 high : ∀ t, j ≤ t → t < l.length → cur[t * 2]? = some (.int .i64 (l[t]!).f0) ∧ cur[t * 2 + 1]? = some (.int .i64 (l[t]!).f1)
 lt : i < j
theorem KeepSt.skip {l : List S60} {q : S60 → Bool} {cap : Nat} {cur : Array Value} {j i : Nat} (h : KeepSt l q cap cur j i) (hj : j < l.length) (hq : q l[j]! = false) : KeepSt l q cap cur (j + 1) i := by
 have e := flat_filter_snoc q l j hj
 rw [hq, if_neg (by simp), List.append_nil] at e
 exact ⟨by rw [e]; exact h.len, h.size, by rw [e]; exact h.low, fun t ht => h.high t (by omega), by have := h.lt; omega⟩
theorem KeepSt.keep {l : List S60} {q : S60 → Bool} {cap : Nat} {cur : Array Value} {j i : Nat} (h : KeepSt l q cap cur j i) (hj : j < l.length) (hl : l.length ≤ cap) (hq : q l[j]! = true) : KeepSt l q cap ((cur.setIfInBounds (i * 2) (.int .i64 (l[j]!).f0)).setIfInBounds (i * 2 + 1) (.int .i64 (l[j]!).f1)) (j + 1) (i + 1) := by
 have e := flat_filter_snoc q l j hj
 rw [if_pos hq] at e
 have hlt := h.lt
 have hs := h.size
 refine ⟨by rw [e, List.length_append, ← h.len]; rfl, by simp [hs], ?_, fun t ht htl => ?_, by omega⟩
 ·rw [e, List.flatMap_append, ← h.low]
  have hi : i * 2 + 1 < cur.toList.length := by rw [Array.length_toList, hs]; omega
  rw [Array.toList_setIfInBounds, Array.toList_setIfInBounds]
  apply List.ext_getElem?
  intro m
  by_cases c1 : m < i * 2
  ·rw [List.getElem?_take_of_lt (by omega), List.getElem?_set_ne (by omega), List.getElem?_set_ne (by omega), List.getElem?_append_left (by rw [List.length_take]; omega), List.getElem?_take_of_lt c1]
  ·rw [List.getElem?_append_right (by rw [List.length_take]; omega), List.length_take, Nat.min_eq_left (by omega)]
   by_cases c2 : m = i * 2
   ·subst c2
    rw [List.getElem?_take_of_lt (by omega), List.getElem?_set_ne (by omega), List.getElem?_set_self (by omega), Nat.sub_self]; rfl
   ·by_cases c3 : m = i * 2 + 1
    ·subst c3
     rw [List.getElem?_take_of_lt (by omega), List.getElem?_set_self (by rw [List.length_set]; omega), show i * 2 + 1 - i * 2 = 1 by omega]; rfl
    ·rw [List.getElem?_eq_none (by rw [List.length_take]; omega), List.getElem?_eq_none (by simp [encP]; omega)]
 ·have := h.high t (by omega) htl
  rw [Array.getElem?_setIfInBounds_ne (by omega), Array.getElem?_setIfInBounds_ne (by omega), Array.getElem?_setIfInBounds_ne (by omega), Array.getElem?_setIfInBounds_ne (by omega)]
  exact this
theorem grown_trans {w w1 w2 : World} {row : Option Nat} (h : w.grownBy w1 row) (hb : Below w1.heap.size w1 w2) : w.grownBy w2 row :=
 ⟨hb.os.trans h.os, hb.tape.trans h.tape, hb.output.trans h.output, Nat.le_trans h.size hb.size, fun k hk hne => (hb.block k (Nat.lt_of_lt_of_le hk h.size)).trans (h.block k hk hne)⟩
theorem grown_set {w w1 : World} {g : Nat} (h : w.grownBy w1 (some g)) (j : Nat) (u : Value) : w.grownBy (w1.setCell ⟨g, j, none⟩ u) (some g) :=
 ⟨h.os, h.tape, h.output, by rw [show (w1.setCell ⟨g, j, none⟩ u).heap.size = w1.heap.size by simp [World.setCell]]; exact h.size, fun k hk hne => (Below.heap_setCell w1 ⟨g, j, none⟩ u k (fun e => hne (by rw [e]))).trans (h.block k hk hne)⟩
set_option maxHeartbeats 8000000 in
set_option maxRecDepth 100000 in
/-- slices.DeleteFunc of a row of the call's own; the function may read the block B (of another type). -/
theorem deleteFuncP (p : S60 → Bool) (fn : Nat) (B tB : Nat) (cB : Array Value) (htB : tB ≠ 60) {w : World} {base : Nat} {ok : Nat → Prop} {u : Value} {l : List S60}
  (hp : ∀ (W : World) (x : S60), W.heap[B]? = some (.cells cB tB (0, 0)) → Calls Try.prog fn #[.agg #[.int .i64 x.f0, .int .i64 x.f1], .pointer (some ⟨B, 0, none⟩)] W fun e w' => e = .returned (.bool (p x)) ∧ Below W.heap.size W w')
  (eg : ∀ args w, (callFunc fn args).run Try.prog w = .ok (.enter fn args) w) (hB : w.heap[B]? = some (.cells cB tB (0, 0))) (hl : l.length ≤ 1000000) (h : Kd.R k60 60 w base ok u l) :
  Calls Try.prog 87 #[u, .func (.func fn) #[] #[.pointer (some ⟨B, 0, none⟩)]] w fun e w' => ∃ u', e = .returned u' ∧ Kd.R k60 60 w' base ok u' (l.filter fun x => !p x) ∧ u'.ownBlock = u.ownBlock ∧ w.grownBy w' u.ownBlock := by
 rcases rowP h with ⟨rfl, rfl⟩ | ⟨g, cap, cur, rfl, hok, hbase, hb, h1, h2, h3, h4⟩
 ·have HH := Aside0.mk h
  clear h hp eg hB
  go_enter Try.func87, Try.ntmps87
  go_wp2_with (go_at_call 102; refine (indexFuncP_nil _ _).mono ?_; rintro e w' ⟨rfl, rfl⟩)
  go_ret
  exact ⟨_, rfl, HH.out, rfl, ⟨rfl, rfl, rfl, Nat.le_refl _, fun _ _ _ => rfl⟩⟩
 ·have hgB : B ≠ g := blk_ne hB hb htB
  have hIF := indexFuncP p fn #[.pointer (some ⟨B, 0, none⟩)] g cap l w (fun W x hW => (hp W x (blk_bel hB hW)).mono fun e w' hh => ⟨hh.1, hW.trans (hh.2.mono hW.size)⟩) eg (by omega) (blk_lt hb) (cellsP (Kd.R_reads' h).2.2)
  have high0 : ∀ t, t < l.length → cur[t * 2]? = some (.int .i64 (l[t]!).f0) ∧ cur[t * 2 + 1]? = some (.int .i64 (l[t]!).f1) := fun t ht => by
   obtain ⟨q1, q2⟩ := cellsP (Kd.R_reads' h).2.2 t ht
   rw [blk_cell hb] at q1 q2
   exact ⟨q1, q2⟩
  rcases Go.Proofs.idxByFrom_spec (fun _ (y : S60) => p y) (default : S60) l 0 with ⟨e, hall⟩ | ⟨k0, hk, e, ht, hall⟩
  ·have e1 : Lib.idxBy (fun _ y => p y) l default = -1 := e
   rw [e1] at hIF
   have hfil : (l.filter fun x => !p x) = l := by
    have := filter_none (fun x => !p x) l l.length (Nat.le_refl _) (fun t ht => by rw [show p l[t]! = false from hall t ht]; rfl)
    rwa [List.take_length] at this
   have HH := Aside0.mk h
   have IFH := Aside0.mk hIF
   have FH := Aside0.mk hfil
   clear h hp eg hB hb h1 h2 h3 h4 hok hbase hIF high0 hall hfil e e1
   go_enter Try.func87, Try.ntmps87
   go_wp2_with (go_at_call 102; refine IFH.out.mono ?_; rintro e w' ⟨rfl, hbw⟩)
   go_ret
   rw [FH.out]
   exact ⟨_, rfl, Kd.R_below HH.out hbw, rfl, grown_of_below hbw _⟩
  ·have hk0 : k0 < l.length := hk
   have e1 : Lib.idxBy (fun _ y => p y) l default = (k0 : Int) := by
    have : Lib.idxBy (fun _ y => p y) l default = ((0 + k0 : Nat) : Int) := e
    rw [this, Nat.zero_add]
   rw [e1] at hIF
   have hne1 : ((k0 : Int) == -1) = false := beq_eq_false_iff_ne.2 (by omega)
   have hst : KeepSt l (fun x => !p x) cap cur (k0 + 1) k0 := by
    have f0 := filter_none (fun x => !p x) l k0 (by omega) (fun t ht => by rw [show p l[t]! = false from hall t ht]; rfl)
    have f1 := flat_filter_snoc (fun x => !p x) l k0 hk0
    rw [show (!p l[k0]!) = false by rw [show p l[k0]! = true from ht]; rfl, if_neg (by simp), List.append_nil, f0] at f1
    refine ⟨by rw [f1, List.length_take]; omega, h3, ?_, fun t h5 h6 => high0 t h6, by omega⟩
    rw [f1, ← flat_take, ← h4, List.take_take, Nat.min_eq_left (by omega)]
   have HP := Aside0.mk hp
   have IFH := Aside0.mk hIF
   have ST := Aside0.mk hst
   have BK := Aside0.mk hb
   have BB := Aside0.mk hB
   have NB := Aside0.mk hgB
   have OKG := Aside0.mk hok
   have BSE := Aside0.mk hbase
   clear h hp hB hb h4 hok hbase hIF high0 hall e e1 hst ht hk hgB
   go_enter Try.func87, Try.ntmps87
   go_wp2_with (go_at_call 102; refine IFH.out.mono ?_; rintro e w1 ⟨rfl, hbw⟩)
   go_loopg [5, 6, 7] l.length (fun gg s5 s6 _ wr => ∃ (i j : Nat) (cur' : Array Value), s5 = .int .i64 i ∧ s6 = .int .i64 j ∧ j ≤ l.length ∧ l.length - j ≤ gg ∧ Aside0 (wr.heap[g]? = some (.cells cur' 60 (0, 0))) ∧ Aside0 (KeepSt l (fun x => !p x) cap cur' j i) ∧ Aside0 (w.grownBy wr (some g)) ∧ Aside0 (wr.heap[B]? = some (.cells cB tB (0, 0))))
   case atStart => exact ⟨k0, k0 + 1, cur, rfl, by go_num, by omega, by omega, ⟨blk_bel BK.out hbw⟩, ST, ⟨grown_of_below hbw _⟩, ⟨blk_bel BB.out hbw⟩⟩
   case round =>
    clear BK BB ST
    obtain ⟨i, j, cur', rfl, rfl, hjl, hgg, BK, ST, GR, BB⟩ := hrel
    by_cases hlt : j < l.length
    ·have hltz : (j : Int) < (l.length : Int) := by omega
     obtain ⟨hc0, hc1⟩ := ST.out.high j (Nat.le_refl _) hlt
     rw [← blk_cell BK.out] at hc0 hc1
     generalize hx : l[j]! = x at hc0 hc1
     have X := Aside0.mk hx
     clear hx
     have hij := ST.out.lt
     have hsz := ST.out.size
     have hB1 := Aside0.mk (blk_alloc BB.out (.cells #[.int .i64 x.f0, .int .i64 x.f1] 60))
     have hbx := Aside0.mk (heap_alloc_new wr (.cells #[.int .i64 x.f0, .int .i64 x.f1] 60))
     have hK1 := Aside0.mk (blk_alloc BK.out (.cells #[.int .i64 x.f0, .int .i64 x.f1] 60))
     have hG1 := Aside0.mk (show w.grownBy (wr.alloc (.cells #[.int .i64 x.f0, .int .i64 x.f1] 60)) (some g) from (Kept.alloc (Kept.of_grown GR.out (Kept.refl w (fun k => k = g)) (fun k hk => by cases hk; exact .inl rfl)) _) |> fun hk => ⟨GR.out.os, GR.out.tape, GR.out.output, hk.1, fun k h1 h2 => hk.2 k h1 (fun e => h2 (by rw [e]))⟩)
     have hcall := HP.out (wr.alloc (.cells #[.int .i64 x.f0, .int .i64 x.f1] 60)) x hB1.out
     cases hq : p x with
     | true =>
      rw [hq] at hcall
      go_wp2_with (go_at_fn fn; refine hcall.mono ?_; rintro e w2 ⟨rfl, hb2⟩; have HB2 := Aside0.mk hb2; clear hb2)
      go_roundg (l.length - (j + 1))
      case measure => omega
      case rel => exact ⟨i, j + 1, cur', rfl, by go_num, by omega, by omega, ⟨blk_bel hK1.out HB2.out⟩, ⟨ST.out.skip hlt (by rw [X.out]; show (!p x) = false; rw [hq]; rfl)⟩, ⟨grown_trans hG1.out HB2.out⟩, ⟨blk_bel hB1.out HB2.out⟩⟩
     | false =>
      rw [hq] at hcall
      go_wp2_with (go_at_fn fn; refine hcall.mono ?_; rintro e w2 ⟨rfl, hb2⟩; have HB2 := Aside0.mk hb2; have K2 := Aside0.mk (blk_bel hK1.out hb2); have X2 := Aside0.mk (blk_bel hbx.out hb2); clear hb2; have hx0 : w2.cell? ⟨wr.heap.size, 0, none⟩ = some (.int .i64 x.f0) := (blk_cell X2.out 0).trans rfl; have hx1 : w2.cell? ⟨wr.heap.size, 1, none⟩ = some (.int .i64 x.f1) := (blk_cell X2.out 1).trans rfl; obtain ⟨v0, hv0⟩ : ∃ v0, w2.cell? ⟨g, i * 2, none⟩ = some v0 := ⟨_, (blk_cell K2.out (i * 2)).trans (Array.getElem?_eq_getElem (by omega))⟩; obtain ⟨v1, hv1⟩ : ∃ v1, w2.cell? ⟨g, i * 2 + 1, none⟩ = some v1 := ⟨_, (blk_cell K2.out (i * 2 + 1)).trans (Array.getElem?_eq_getElem (by omega))⟩; have hf0 := blk_frozen K2.out (i * 2); have hf1 := blk_frozen K2.out (i * 2 + 1))
      go_roundg (l.length - (j + 1))
      case measure => omega
      case rel =>
       refine ⟨i + 1, j + 1, _, by go_num, by go_num, by omega, by omega, ⟨blk_set (blk_set K2.out (i * 2) (.int .i64 x.f0)) (i * 2 + 1) (.int .i64 x.f1)⟩, ⟨?_⟩, ⟨grown_set (grown_set (grown_trans hG1.out HB2.out) _ _) _ _⟩, ⟨blk_far (p := ⟨g, i * 2 + 1, none⟩) (blk_far (p := ⟨g, i * 2, none⟩) (blk_bel hB1.out HB2.out) NB.out _) NB.out _⟩⟩
       have := ST.out.keep hlt h1 (by rw [X.out]; show (!p x) = true; rw [hq]; rfl)
       rwa [X.out] at this
    ·obtain rfl : j = l.length := by omega
     have hltz : ¬ (l.length : Int) < (l.length : Int) := by omega
     have hij := ST.out.lt
     have hsz := ST.out.size
     have hic : i ≤ cap := by omega
     obtain ⟨zs, hzs⟩ : ∃ zs, zs = (Builtin.zeroCells (Value.agg #[(.int .i64 0), (.int .i64 0)]).cells (l.length - i)).toList := ⟨_, rfl⟩
     have hzl : zs.length = (l.length - i) * 2 := by rw [hzs, Array.length_toList, size_zeroCells]; rfl
     have hz1' : ∀ u ∈ zs, u.oneCell' = true := by rw [hzs]; exact zeroCells_all (by decide) (by intro u hu; simp [Value.cells] at hu; rcases hu with rfl | rfl <;> rfl)
     have hcl : ∀ ty, (Builtin.clear_ #[52] ty #[.slice (some ⟨g, i * 2, none⟩) (l.length - i) (cap - i)]).run Try.prog wr = .ok (.tuple #[]) (wr.setCells g (i * 2) zs) := by
      intro ty
      rw [hzs]
      refine run_clear_cells wr 52 60 ty (.agg #[(.int .i64 0), (.int .i64 0)]) Try.underlying52 (fun w => Try.zeroValue60 w) g _ _ _ (by rw [← hzs]; exact hz1') (by omega) (fun t ht => ?_) (fun t ht => blk_frozen BK.out _)
      rw [← hzs, hzl] at ht
      rw [blk_cell BK.out, Array.getElem?_eq_getElem (by omega)]; rfl
     have ZL := Aside0.mk hzl
     clear hz1' hzl hzs
     go_wp2_with fail
     go_ret
     obtain ⟨cur2, d1, d2, d3⟩ := setCells_row (g := g) zs (i * 2) wr cur' BK.out (by rw [ZL.out]; omega)
     have hlen : i = (l.filter fun x => !p x).length := by have := ST.out.len; rwa [List.take_length] at this
     refine ⟨_, rfl, ?_, rfl, ?_⟩
     ·have hlow := ST.out.low
      rw [List.take_length] at hlow
      have M := mkP (l := l.filter fun x => !p x) OKG.out BSE.out d1 (by omega) h2 (by rw [d2]; exact hsz) ?_
      ·rw [← hlen] at M; exact M
      rw [← hlen, d3, List.append_assoc, List.take_append_of_le_length (by rw [List.length_take, Array.length_toList]; omega), List.take_take, Nat.min_self, hlow]
     ·obtain ⟨q1, q2, q3, q4⟩ := setCells_same g zs (i * 2) wr
      exact ⟨q1.trans GR.out.os, q2.trans GR.out.tape, q3.trans GR.out.output, by rw [q4]; exact GR.out.size, fun k hk hne => (setCells_far zs _ k (fun e => hne (by rw [e]; rfl))).trans (GR.out.block k hk hne)⟩
/-- What a post becomes that is changed by 'do'; 'do' tells whether it can be done, the limit and the boxes then. -/
def changedF (k : Nat) (doF : Int → List S58 → Option (Bool × Int × List S58)) (lim : Int) (bs : List S58) : Option (Int × List S58 × Bool) :=
 (impl_ValidPost.f k lim bs).bind fun t1 => (if t1 = true then ((impl_clonePost.f k lim bs).bind fun t2 => ((doF t2.1 t2.2).bind fun t3 => (if t3.1 = true then ((impl_ValidPost.f k t3.2.1 t3.2.2).bind fun t4 => (if t4 = true then some (t3.2.1, t3.2.2, true) else some (0, [], false))) else some (0, [], false)))) else some (0, [], false))
/-- What is asked of 'do': of the call's own (from w on) it changes the post's block, its boxes' rows and what is new; of the rest it keeps 'St'. -/
def DoAt (fn : Nat) (lb : Array Value) (doF : Int → List S58 → Option (Bool × Int × List S58)) (St : World → Prop) (w : World) : Prop :=
 ∀ (W : World) (gO : Nat) (lim : Int) (v : Value) (bs : List S58) (r : Bool × Int × List S58), Below w.heap.size w W → w.heap.size ≤ gO → W.heap[gO]? = some (.cells #[.int .i64 lim, v] 29 (0, 0)) → Kd.S k58 58 W w.heap.size (fun _ => True) v bs → doF lim bs = some r →
   Calls Try.prog fn (#[.pointer (some ⟨gO, 0, none⟩)] ++ lb) W fun e w' => e = .returned (.bool r.1) ∧ ∃ v', w'.heap[gO]? = some (.cells #[.int .i64 r.2.1, v'] 29 (0, 0)) ∧ Kd.S k58 58 w' w.heap.size (fun _ => True) v' r.2.2 ∧ St w' ∧ W.heap.size ≤ w'.heap.size ∧ ∀ g, w.heap.size ≤ g → g < W.heap.size → (∃ cs, W.heap[g]? = some (.cells cs 29 (0, 0))) → g ≠ gO → w'.heap[g]? = W.heap[g]?
theorem size_set (w : World) (p : Addr) (u : Value) : (w.setCell p u).heap.size = w.heap.size := by simp [World.setCell]
set_option maxHeartbeats 8000000 in
set_option maxRecDepth 100000 in
theorem changedPost_calls (k : Nat) (fn : Nat) (lb : Array Value) (eg : ∀ args w, (callFunc fn args).run Try.prog w = .ok (.enter fn args) w) (doF : Int → List S58 → Option (Bool × Int × List S58)) (St : World → Prop) (w : World)
  (hSt0 : ∀ W, Below w.heap.size w W → St W) (hSt1 : ∀ W W', St W → w.heap.size ≤ W.heap.size → Below W.heap.size W W' → St W') (hSt2 : ∀ W g j u, St W → w.heap.size ≤ g → St (W.setCell ⟨g, j, none⟩ u)) (hdo : DoAt fn lb doF St w)
  (a0 : Int) (A0 : Option Addr) (c0 : Nat) (l0 : List S58) (r1 : Int) (r2 : List S58) (r3 : Bool) (hr0 : Kd.C k58 w A0 l0.length l0) (hc0 : l0.length ≤ c0) (h : changedF k doF a0 l0 = some (r1, r2, r3)) :
  Calls Try.prog 81 #[.agg #[.int .i64 a0, .slice A0 l0.length c0], .func (.func fn) #[] lb] w fun e w' => ∃ v1_ : Value, e = .returned (.tuple #[.agg #[.int .i64 r1, v1_], .bool r3]) ∧ Kd.S k58 58 w' w.heap.size (fun _ => True) v1_ r2 ∧ St w' ∧ w.heap.size ≤ w'.heap.size := by
 unfold changedF at h
 obtain ⟨t1, h1, h⟩ := Option.bind_eq_some_iff.mp h
 have HR0 := Aside0.mk hr0
 have HC0 := Aside0.mk hc0
 have A1' := Aside0.mk h1
 have HS0 := Aside0.mk hSt0
 have HS1 := Aside0.mk hSt1
 have HS2 := Aside0.mk hSt2
 have HDO := Aside0.mk hdo
 have b2 := Aside0.mk (blk_alloc (heap_alloc_new w (.cells #[.int .i64 a0, .slice A0 l0.length c0] 29)) (.cells #[.int .i64 0, .slice none 0 0] 29))
 have b4 := Aside0.mk (heap_alloc_new (w.alloc (.cells #[.int .i64 a0, .slice A0 l0.length c0] 29)) (.cells #[.int .i64 0, .slice none 0 0] 29))
 have bz : (w.alloc (.cells #[.int .i64 a0, .slice A0 l0.length c0] 29)).heap.size = w.heap.size + 1 := by simp
 rw [bz] at b4
 have HB0 := Aside0.mk (below_alloc (below_alloc (Below.refl w.heap.size w) (.cells #[.int .i64 a0, .slice A0 l0.length c0] 29)) (.cells #[.int .i64 0, .slice none 0 0] 29))
 clear hr0 hc0 h1 hSt0 hSt1 hSt2 hdo bz
 cases t1 with
 | false =>
  rw [if_neg (by simp)] at h
  simp only [Option.some.injEq, Prod.mk.injEq] at h
  obtain ⟨rfl, rfl, rfl⟩ := h
  go_enter Try.func81, Try.ntmps81
  go_wp2_with (go_at_call 25; refine (impl_ValidPost.calls k a0 A0 c0 l0 false _ (by repeat (first | exact HR0.out | (with_reducible refine Kd.C_alloc ?_ _))) HC0.out A1'.out).mono ?_; rintro e w1 ⟨rfl, hb1⟩; have HB1 := Aside0.mk (HB0.out.trans (hb1.mono HB0.out.size)); have b4' := Aside0.mk (blk_bel b4.out hb1); clear hb1; have hz0 : w1.cell? ⟨w.heap.size + 1, 0, none⟩ = some (.int .i64 0) := (blk_cell b4'.out 0).trans rfl; have hz1 : w1.cell? ⟨w.heap.size + 1, 1, none⟩ = some (.slice none 0 0) := (blk_cell b4'.out 1).trans rfl; have hf0 := blk_frozen b4'.out 0; have hf1 := blk_frozen b4'.out 1)
  refine bodyPost_ret (results_ct rfl _ _ (w.heap.size + 1) 29 #[.int .i64 0, .slice none 0 0] (0, 0) _ rfl (by refine blk_put (cs := #[.int .i64 0, .slice none 0 0]) ?_ 1 _ rfl; refine blk_put (cs := #[.int .i64 0, .slice none 0 0]) ?_ 0 _ rfl; exact b4'.out) Try.underlying29 rfl (by kernel_rfl)) rfl ?_
  exact ⟨_, rfl, Kd.S_nil _ _ _ _ _, HS2.out _ _ _ _ (HS2.out _ _ _ _ (HS0.out _ HB1.out) (by omega)) (by omega), by simp only [size_set]; exact HB1.out.size⟩
 | true =>
  rw [if_pos rfl] at h
  obtain ⟨⟨lim1, bs1⟩, h2, h⟩ := Option.bind_eq_some_iff.mp h
  obtain ⟨⟨ok3, lim3, bs3⟩, h3, h⟩ := Option.bind_eq_some_iff.mp h
  simp only at h3 h
  have A2' := Aside0.mk h2
  have A3' := Aside0.mk h3
  clear h2 h3
  cases ok3 with
  | false =>
   rw [if_neg (by simp)] at h
   simp only [Option.some.injEq, Prod.mk.injEq] at h
   obtain ⟨rfl, rfl, rfl⟩ := h
   go_enter Try.func81, Try.ntmps81
   go_wp2_with (first | (go_at_call 25; (with_reducible refine (impl_ValidPost.calls k a0 A0 c0 l0 true _ ?s25 HC0.out A1'.out).mono ?_); (case s25 => repeat (first | exact HR0.out | (with_reducible refine Kd.C_alloc ?_ _))); rintro e w1 ⟨rfl, hb1⟩; have HB1 := Aside0.mk (HB0.out.trans (hb1.mono HB0.out.size)); have b4' := Aside0.mk (blk_bel b4.out hb1); have b2' := Aside0.mk (blk_bel b2.out hb1); clear hb1; have hp0 : w1.cell? ⟨w.heap.size, 0, none⟩ = some (.int .i64 a0) := (blk_cell b2'.out 0).trans rfl; have hp1 : w1.cell? ⟨w.heap.size, 1, none⟩ = some (.slice A0 l0.length c0) := (blk_cell b2'.out 1).trans rfl) | (go_at_call 114; refine (impl_clonePost.calls k a0 A0 c0 l0 lim1 bs1 w1 (Kd.C_below HR0.out HB1.out) HC0.out A2'.out).mono ?_; clear hp0 hp1; rintro e w2 ⟨v2, rfl, hs2, hb2⟩; obtain ⟨Av, cv, ev⟩ := Kd.S_slice hs2; subst ev; have HB2 := Aside0.mk (HB1.out.trans (hb2.mono HB1.out.size)); have b4'' := Aside0.mk (blk_bel b4'.out hb2); have S2 := Aside0.mk (Kd.S_lower hs2 HB1.out.size); clear hb2 hs2) | (go_at_fn fn; refine (HDO.out _ w2.heap.size lim1 (.slice Av bs1.length cv) bs1 (false, lim3, bs3) (below_alloc HB2.out _) HB2.out.size (heap_alloc_new w2 _) (Kd.S_alloc S2.out _) A3'.out).mono ?_; rintro e w3 ⟨rfl, v3, hk3, hs3, hst3, hsz3, hkeep3⟩; have hlt4 := blk_lt b4''.out; have b43 := Aside0.mk ((hkeep3 (w.heap.size + 1) (by omega) (by simp; omega) ⟨_, blk_alloc b4''.out _⟩ (by omega)).trans (blk_alloc b4''.out _)); have K3 := Aside0.mk hk3; have S3 := Aside0.mk hs3; have ST3 := Aside0.mk hst3; have SZ3 := Aside0.mk hsz3; clear hk3 hs3 hst3 hsz3 hkeep3 hlt4; have hz0 : w3.cell? ⟨w.heap.size + 1, 0, none⟩ = some (.int .i64 0) := (blk_cell b43.out 0).trans rfl; have hz1 : w3.cell? ⟨w.heap.size + 1, 1, none⟩ = some (.slice none 0 0) := (blk_cell b43.out 1).trans rfl; have hf0 := blk_frozen b43.out 0; have hf1 := blk_frozen b43.out 1))
   refine bodyPost_ret (results_ct rfl _ _ (w.heap.size + 1) 29 #[.int .i64 0, .slice none 0 0] (0, 0) _ rfl (by refine blk_put (cs := #[.int .i64 0, .slice none 0 0]) ?_ 1 _ rfl; refine blk_put (cs := #[.int .i64 0, .slice none 0 0]) ?_ 0 _ rfl; exact b43.out) Try.underlying29 rfl (by kernel_rfl)) rfl ?_
   exact ⟨_, rfl, Kd.S_nil _ _ _ _ _, HS2.out _ _ _ _ (HS2.out _ _ _ _ ST3.out (by omega)) (by omega), by simp only [size_set]; have := SZ3.out; have := HB2.out.size; simp at *; omega⟩
  | true =>
   rw [if_pos rfl] at h
   obtain ⟨t4, h4, h⟩ := Option.bind_eq_some_iff.mp h
   have A4' := Aside0.mk h4
   clear h4
   cases t4 with
   | false =>
    rw [if_neg (by simp)] at h
    simp only [Option.some.injEq, Prod.mk.injEq] at h
    obtain ⟨rfl, rfl, rfl⟩ := h
    go_enter Try.func81, Try.ntmps81
    go_wp2_with (first | (go_at_call 25; (with_reducible refine (impl_ValidPost.calls k a0 A0 c0 l0 true _ ?s25 HC0.out A1'.out).mono ?_); (case s25 => repeat (first | exact HR0.out | (with_reducible refine Kd.C_alloc ?_ _))); rintro e w1 ⟨rfl, hb1⟩; have HB1 := Aside0.mk (HB0.out.trans (hb1.mono HB0.out.size)); have b4' := Aside0.mk (blk_bel b4.out hb1); have b2' := Aside0.mk (blk_bel b2.out hb1); clear hb1; have hp0 : w1.cell? ⟨w.heap.size, 0, none⟩ = some (.int .i64 a0) := (blk_cell b2'.out 0).trans rfl; have hp1 : w1.cell? ⟨w.heap.size, 1, none⟩ = some (.slice A0 l0.length c0) := (blk_cell b2'.out 1).trans rfl) | (go_at_call 114; refine (impl_clonePost.calls k a0 A0 c0 l0 lim1 bs1 w1 (Kd.C_below HR0.out HB1.out) HC0.out A2'.out).mono ?_; clear hp0 hp1; rintro e w2 ⟨v2, rfl, hs2, hb2⟩; obtain ⟨Av, cv, ev⟩ := Kd.S_slice hs2; subst ev; have HB2 := Aside0.mk (HB1.out.trans (hb2.mono HB1.out.size)); have b4'' := Aside0.mk (blk_bel b4'.out hb2); have S2 := Aside0.mk (Kd.S_lower hs2 HB1.out.size); clear hb2 hs2) | (go_at_fn fn; refine (HDO.out _ w2.heap.size lim1 (.slice Av bs1.length cv) bs1 (true, lim3, bs3) (below_alloc HB2.out _) HB2.out.size (heap_alloc_new w2 _) (Kd.S_alloc S2.out _) A3'.out).mono ?_; rintro e w3 ⟨rfl, v3, hk3, hs3, hst3, hsz3, hkeep3⟩; have hlt4 := blk_lt b4''.out; have b43 := Aside0.mk ((hkeep3 (w.heap.size + 1) (by omega) (by simp; omega) ⟨_, blk_alloc b4''.out _⟩ (by omega)).trans (blk_alloc b4''.out _)); have K3 := Aside0.mk hk3; have S3 := Aside0.mk hs3; have ST3 := Aside0.mk hst3; have SZ3 := Aside0.mk hsz3; clear hk3 hs3 hst3 hsz3 hkeep3 hlt4; obtain ⟨A3, c3, e3⟩ := Kd.S_slice S3.out; subst e3; have hq0 : w3.cell? ⟨w2.heap.size, 0, none⟩ = some (.int .i64 lim3) := (blk_cell K3.out 0).trans rfl; have hq1 : w3.cell? ⟨w2.heap.size, 1, none⟩ = some (.slice A3 bs3.length c3) := (blk_cell K3.out 1).trans rfl) | (go_at_call 25; (with_reducible refine (impl_ValidPost.calls k lim3 A3 c3 bs3 false _ ?s26 ?s27 A4'.out).mono ?_); (case s26 => exact (Kd.S_reads' S3.out).2.2); (case s27 => have := (Kd.S_reads' S3.out).2.1; exact this); clear hq0 hq1; rintro e w4 ⟨rfl, hb4⟩; have b44 := Aside0.mk (blk_bel b43.out hb4); have K4 := Aside0.mk (blk_bel K3.out hb4); have S4 := Aside0.mk (Kd.S_below S3.out hb4); have HSZ := Aside0.mk (show w.heap.size ≤ w3.heap.size from by have := SZ3.out; have := HB2.out.size; simp at *; omega); have ST4 := Aside0.mk (HS1.out _ _ ST3.out HSZ.out hb4); have SZ4 := Aside0.mk (Nat.le_trans HSZ.out hb4.size); clear hb4; have hz0 : w4.cell? ⟨w.heap.size + 1, 0, none⟩ = some (.int .i64 0) := (blk_cell b44.out 0).trans rfl; have hz1 : w4.cell? ⟨w.heap.size + 1, 1, none⟩ = some (.slice none 0 0) := (blk_cell b44.out 1).trans rfl; have hf0 := blk_frozen b44.out 0; have hf1 := blk_frozen b44.out 1))
    refine bodyPost_ret (results_ct rfl _ _ (w.heap.size + 1) 29 #[.int .i64 0, .slice none 0 0] (0, 0) _ rfl (by refine blk_put (cs := #[.int .i64 0, .slice none 0 0]) ?_ 1 _ rfl; refine blk_put (cs := #[.int .i64 0, .slice none 0 0]) ?_ 0 _ rfl; exact b44.out) Try.underlying29 rfl (by kernel_rfl)) rfl ?_
    exact ⟨_, rfl, Kd.S_nil _ _ _ _ _, HS2.out _ _ _ _ (HS2.out _ _ _ _ ST4.out (by omega)) (by omega), by simp only [size_set]; exact SZ4.out⟩
   | true =>
    rw [if_pos rfl] at h
    simp only [Option.some.injEq, Prod.mk.injEq] at h
    obtain ⟨rfl, rfl, rfl⟩ := h
    go_enter Try.func81, Try.ntmps81
    go_wp2_with (first | (go_at_call 25; (with_reducible refine (impl_ValidPost.calls k a0 A0 c0 l0 true _ ?s25 HC0.out A1'.out).mono ?_); (case s25 => repeat (first | exact HR0.out | (with_reducible refine Kd.C_alloc ?_ _))); rintro e w1 ⟨rfl, hb1⟩; have HB1 := Aside0.mk (HB0.out.trans (hb1.mono HB0.out.size)); have b4' := Aside0.mk (blk_bel b4.out hb1); have b2' := Aside0.mk (blk_bel b2.out hb1); clear hb1; have hp0 : w1.cell? ⟨w.heap.size, 0, none⟩ = some (.int .i64 a0) := (blk_cell b2'.out 0).trans rfl; have hp1 : w1.cell? ⟨w.heap.size, 1, none⟩ = some (.slice A0 l0.length c0) := (blk_cell b2'.out 1).trans rfl) | (go_at_call 114; refine (impl_clonePost.calls k a0 A0 c0 l0 lim1 bs1 w1 (Kd.C_below HR0.out HB1.out) HC0.out A2'.out).mono ?_; clear hp0 hp1; rintro e w2 ⟨v2, rfl, hs2, hb2⟩; obtain ⟨Av, cv, ev⟩ := Kd.S_slice hs2; subst ev; have HB2 := Aside0.mk (HB1.out.trans (hb2.mono HB1.out.size)); have b4'' := Aside0.mk (blk_bel b4'.out hb2); have S2 := Aside0.mk (Kd.S_lower hs2 HB1.out.size); clear hb2 hs2) | (go_at_fn fn; refine (HDO.out _ w2.heap.size lim1 (.slice Av bs1.length cv) bs1 (true, lim3, bs3) (below_alloc HB2.out _) HB2.out.size (heap_alloc_new w2 _) (Kd.S_alloc S2.out _) A3'.out).mono ?_; rintro e w3 ⟨rfl, v3, hk3, hs3, hst3, hsz3, hkeep3⟩; have hlt4 := blk_lt b4''.out; have b43 := Aside0.mk ((hkeep3 (w.heap.size + 1) (by omega) (by simp; omega) ⟨_, blk_alloc b4''.out _⟩ (by omega)).trans (blk_alloc b4''.out _)); have K3 := Aside0.mk hk3; have S3 := Aside0.mk hs3; have ST3 := Aside0.mk hst3; have SZ3 := Aside0.mk hsz3; clear hk3 hs3 hst3 hsz3 hkeep3 hlt4; obtain ⟨A3, c3, e3⟩ := Kd.S_slice S3.out; subst e3; have hq0 : w3.cell? ⟨w2.heap.size, 0, none⟩ = some (.int .i64 lim3) := (blk_cell K3.out 0).trans rfl; have hq1 : w3.cell? ⟨w2.heap.size, 1, none⟩ = some (.slice A3 bs3.length c3) := (blk_cell K3.out 1).trans rfl) | (go_at_call 25; (with_reducible refine (impl_ValidPost.calls k lim3 A3 c3 bs3 true _ ?s26 ?s27 A4'.out).mono ?_); (case s26 => exact (Kd.S_reads' S3.out).2.2); (case s27 => have := (Kd.S_reads' S3.out).2.1; exact this); clear hq0 hq1; rintro e w4 ⟨rfl, hb4⟩; have b44 := Aside0.mk (blk_bel b43.out hb4); have K4 := Aside0.mk (blk_bel K3.out hb4); have S4 := Aside0.mk (Kd.S_below S3.out hb4); have HSZ := Aside0.mk (show w.heap.size ≤ w3.heap.size from by have := SZ3.out; have := HB2.out.size; simp at *; omega); have ST4 := Aside0.mk (HS1.out _ _ ST3.out HSZ.out hb4); have SZ4 := Aside0.mk (Nat.le_trans HSZ.out hb4.size); clear hb4; have hz0 : w4.cell? ⟨w.heap.size + 1, 0, none⟩ = some (.int .i64 0) := (blk_cell b44.out 0).trans rfl; have hz1 : w4.cell? ⟨w.heap.size + 1, 1, none⟩ = some (.slice none 0 0) := (blk_cell b44.out 1).trans rfl; have hf0 := blk_frozen b44.out 0; have hf1 := blk_frozen b44.out 1; have hq0 : w4.cell? ⟨w2.heap.size, 0, none⟩ = some (.int .i64 lim3) := (blk_cell K4.out 0).trans rfl; have hq1 : w4.cell? ⟨w2.heap.size, 1, none⟩ = some (.slice A3 bs3.length c3) := (blk_cell K4.out 1).trans rfl))
    refine bodyPost_ret (results_ct rfl _ _ (w.heap.size + 1) 29 #[.int .i64 lim3, .slice A3 bs3.length c3] (0, 0) _ rfl (by refine blk_put (cs := #[.int .i64 lim3, .slice none 0 0]) ?_ 1 _ rfl; refine blk_put (cs := #[.int .i64 0, .slice none 0 0]) ?_ 0 _ rfl; exact b44.out) Try.underlying29 rfl (by kernel_rfl)) rfl ?_
    exact ⟨_, rfl, Kd.S_mono (Kd.S_far (p := ⟨w.heap.size + 1, 1, none⟩) (Kd.S_far (p := ⟨w.heap.size + 1, 0, none⟩) (Kd.S_types S4.out b44.out (by decide)) (fun _ hk => hk.2) _) (fun _ hk => hk.2) _) (fun _ _ => trivial), HS2.out _ _ _ _ (HS2.out _ _ _ _ ST4.out (by omega)) (by omega), by simp only [size_set]; exact SZ4.out⟩
def part (f : S58 → S58) (bs : List S58) (i : Nat) : List S58 := (bs.take i).map f ++ bs.drop i
theorem part_len (f : S58 → S58) (bs : List S58) (i : Nat) : (part f bs i).length = bs.length := by
 unfold part; rw [List.length_append, List.length_map, List.length_take, List.length_drop]; omega
theorem part_at (f : S58 → S58) (bs : List S58) (i : Nat) (hi : i < bs.length) : (part f bs i).getD i z58 = bs[i] := by
 unfold part
 rw [List.getD_eq_getElem?_getD, List.getElem?_append_right (by rw [List.length_map, List.length_take]; omega), List.length_map, List.length_take, Nat.min_eq_left (by omega), Nat.sub_self, List.getElem?_drop, Nat.add_zero, List.getElem?_eq_getElem hi]; rfl
theorem part_set (f : S58 → S58) (bs : List S58) (i : Nat) (hi : i < bs.length) : (part f bs i).set i (f bs[i]) = part f bs (i + 1) := by
 unfold part
 rw [List.set_append_right _ _ (by rw [List.length_map, List.length_take]; omega), List.length_map, List.length_take, Nat.min_eq_left (by omega), Nat.sub_self, List.drop_eq_getElem_cons hi, List.set_cons_zero, List.take_succ_eq_append_getElem hi, List.map_append, List.append_assoc]
 rfl
theorem part_end (f : S58 → S58) (bs : List S58) : part f bs bs.length = bs.map f := by unfold part; rw [List.take_length, List.drop_length, List.append_nil]
/-- What 'do' keeps of the rest: the posts' blocks, but its own. -/
def Keep29 (b : Nat) (W : World) (gO : Nat) (w' : World) : Prop := W.heap.size ≤ w'.heap.size ∧ ∀ g, b ≤ g → g < W.heap.size → (∃ cs, W.heap[g]? = some (.cells cs 29 (0, 0))) → g ≠ gO → w'.heap[g]? = W.heap[g]?
theorem keep29_refl (b : Nat) (W : World) (gO : Nat) : Keep29 b W gO W := ⟨Nat.le_refl _, fun _ _ _ _ _ => rfl⟩
theorem keep29_below {b : Nat} {W : World} {gO : Nat} {w1 w2 : World} (h : Keep29 b W gO w1) (hb : Below w1.heap.size w1 w2) : Keep29 b W gO w2 := ⟨Nat.le_trans h.1 hb.size, fun g h1 h2 h3 h4 => (hb.block g (Nat.lt_of_lt_of_le h2 h.1)).trans (h.2 g h1 h2 h3 h4)⟩
theorem keep29_grown {b : Nat} {W : World} {gO : Nat} {w1 w2 : World} {row : Option Nat} (h : Keep29 b W gO w1) (hg : w1.grownBy w2 row) (hne : ∀ g cs, w1.heap[g]? = some (.cells cs 29 (0, 0)) → some g ≠ row) : Keep29 b W gO w2 :=
 ⟨Nat.le_trans h.1 hg.size, fun g h1 h2 h3 h4 => by
  have hw := h.2 g h1 h2 h3 h4
  obtain ⟨cs, hcs⟩ := h3
  exact (hg.block g (Nat.lt_of_lt_of_le h2 h.1) (hne g cs (hw.trans hcs))).trans hw⟩
theorem keep29_set {b : Nat} {W : World} {gO : Nat} {w1 : World} {p : Addr} (u : Value) (h : Keep29 b W gO w1) (hne : ∀ g cs, w1.heap[g]? = some (.cells cs 29 (0, 0)) → g ≠ p.block) : Keep29 b W gO (w1.setCell p u) :=
 ⟨by rw [size_set]; exact h.1, fun g h1 h2 h3 h4 => by
  have hw := h.2 g h1 h2 h3 h4
  obtain ⟨cs, hcs⟩ := h3
  exact (Below.heap_setCell w1 p u g (hne g cs (hw.trans hcs))).trans hw⟩
theorem changedF_mono (doF : Int → List S58 → Option (Bool × Int × List S58)) (k : Nat) (lim : Int) (bs : List S58) : LeO (changedF k doF lim bs) (changedF (k + 1) doF lim bs) := by
 unfold changedF
 exact LeO.bind (impl_ValidPost.mono _ _ _) fun t1 => LeO.ite (LeO.bind (impl_clonePost.mono _ _ _) fun t2 => LeO.bind (LeO.refl _) fun t3 => LeO.ite (LeO.bind (impl_ValidPost.mono _ _ _) fun t4 => LeO.refl _) (LeO.refl _)) (LeO.refl _)
def stripB (rm : Int) (b : S58) : S58 := ⟨b.f0, b.f1, b.f2, b.f3.filter fun p => !(p.f0 == rm)⟩
def doWR (rm : Int) (lim : Int) (bs : List S58) : Option (Bool × Int × List S58) := if bs.length ≤ 1000 ∧ (∀ b ∈ bs, b.f3.length ≤ 1000) then ((impl_in.f rm 1 1000).bind fun t => some (t, lim, bs.map (stripB rm))) else none
theorem wr_lit (x : S60) (rm : Int) (B : Nat) (W : World) (hB : W.heap[B]? = some (.cells #[.int .i64 rm] 2 (0, 0))) :
  Calls Try.prog 88 #[.agg #[.int .i64 x.f0, .int .i64 x.f1], .pointer (some ⟨B, 0, none⟩)] W fun e w' => e = .returned (.bool (x.f0 == rm)) ∧ Below W.heap.size W w' := by
 have hc : W.cell? ⟨B, 0, none⟩ = some (.int .i64 rm) := (blk_cell hB 0).trans rfl
 have hlt : B < W.heap.size := World.block_lt_of_cell? W _ hc
 clear hB
 go_enter Try.func88, Try.ntmps88
 go_wp2
 go_ret
 exact ⟨rfl, below_alloc (Below.refl _ _) _⟩
set_option maxHeartbeats 8000000 in
set_option maxRecDepth 100000 in
theorem wr_do (rm : Int) (B : Nat) (w : World) (hB : w.heap[B]? = some (.cells #[.int .i64 rm] 2 (0, 0))) : DoAt 86 #[.pointer (some ⟨B, 0, none⟩)] (doWR rm) (fun W => Below w.heap.size w W) w := by
 intro W gO lim v bs r hW hgO hk hs hd
 unfold doWR at hd
 by_cases hsz : bs.length ≤ 1000 ∧ (∀ b ∈ bs, b.f3.length ≤ 1000)
 case neg => rw [if_neg hsz] at hd; cases hd
 rw [if_pos hsz] at hd
 obtain ⟨t, ht, hd⟩ := Option.bind_eq_some_iff.mp hd
 injection hd with hd
 subst hd
 obtain ⟨hn, hbl⟩ := hsz
 have HW := Aside0.mk hW
 have HK := Aside0.mk hk
 have HS := Aside0.mk hs
 have HT := Aside0.mk ht
 have HBL := Aside0.mk hbl
 have HBB := Aside0.mk hB
 have HGO := Aside0.mk hgO
 have EG88 := Aside0.mk (enters_of (P := Try.prog) Try.func88 (by kernel_rfl) rfl : ∀ args w, (callFunc 88 args).run Try.prog w = .ok (.enter 88 args) w)
 obtain ⟨Av, cv, ev⟩ := Kd.S_slice hs
 subst ev
 have hc1 : W.cell? ⟨gO, 1, none⟩ = some (.slice Av bs.length cv) := (blk_cell hk 1).trans rfl
 clear hW hk hs ht hbl hB hgO
 show Calls Try.prog 86 #[.pointer (some ⟨gO, 0, none⟩), .pointer (some ⟨B, 0, none⟩)] W _
 go_enter Try.func86, Try.ntmps86
 go_wp2
 clear hc1
 have hp0 : part (stripB rm) bs 0 = bs := by simp [part]
 have HS0 : Aside0 (Kd.S k58 58 W w.heap.size (fun _ => True) (.slice Av bs.length cv) (part (stripB rm) bs 0)) := ⟨by rw [hp0]; exact HS.out⟩
 clear hp0
 go_loopg [4, 10] bs.length (fun gg _ s10 wr => ∃ i : Nat, i ≤ bs.length ∧ bs.length - i ≤ gg ∧ s10 = .int .i64 i ∧ Aside0 (wr.heap[gO]? = some (.cells #[.int .i64 lim, .slice Av bs.length cv] 29 (0, 0))) ∧ Aside0 (Kd.S k58 58 wr w.heap.size (fun _ => True) (.slice Av bs.length cv) (part (stripB rm) bs i)) ∧ Aside0 (Below w.heap.size w wr) ∧ Aside0 (Keep29 w.heap.size W gO wr))
 case atStart => exact ⟨0, Nat.zero_le _, by omega, rfl, HK, HS0, HW, ⟨keep29_refl _ _ _⟩⟩
 case round =>
  clear HK HS HW HS0
  obtain ⟨i, hi, hgg, rfl, HK, HS, HW, HZ⟩ := hrel
  by_cases hlt : i < bs.length
  ·have hltz : (i : Int) < (bs.length : Int) := by omega
   obtain ⟨gb, cap, eb, hgb, hgb2, cellsb, hcb⟩ := Kd.S_form HS.out (by rw [part_len]; omega)
   rw [part_len] at eb
   injection eb with eA _ eC
   subst eA
   subst eC
   obtain ⟨oki, c, hcl, hM, hcc, hfr, hoki, hH⟩ := Kd.S_elem HS.out z58 (i : Int) (by omega) (by omega)
   rw [Int.toNat_natCast, part_at _ _ _ hlt] at hM
   rw [Int.toNat_natCast] at hcc hfr
   obtain ⟨v3, rfl, hR⟩ := k58_openM hM
   have hhl : bs[i].f3.length ≤ 1000 := HBL.out _ (List.getElem_mem hlt)
   generalize hbx : bs[i] = bx at hM hR hcc hfr hcl hhl
   have BX := Aside0.mk hbx
   clear hbx
   obtain ⟨A3, c3, e3⟩ := Kd.R_slice hR
   subst e3
   have hx1 : wr.cell? ⟨gO, 1, none⟩ = some (.slice (some ⟨gb, 0, none⟩) bs.length cv) := (blk_cell HK.out 1).trans rfl
   have hx2 : wr.cell? ⟨gb, i * 4 + 3, none⟩ = some (.slice A3 bx.f3.length c3) := hcc 3 _ rfl
   have hx3 : wr.frozen? ⟨gb, i * 4 + 3, none⟩ = false := hfr 3
   have RR := Aside0.mk hR
   have HH := Aside0.mk hH
   have OKI := Aside0.mk hoki
   have BB := Aside0.mk (blk_bel HBB.out HW.out)
   have CB := Aside0.mk hcb
   clear hR hM hcc hfr hcl hH hoki hcb
   have HNE : gO ≠ gb := blk_ne HK.out CB.out (by decide)
   go_wp2_with fail
   go_region_with (first | (go_at_call 87; refine (deleteFuncP (w := wr.drew) (fun p => p.f0 == rm) 88 B 2 #[.int .i64 rm] (by decide) (fun W x hW => wr_lit x rm B W hW) EG88.out (show wr.drew.heap[B]? = _ from BB.out) (by omega) (Kd.R_drew RR.out)).mono ?_; rintro e w2 ⟨u', rfl, hr2, hown, hg2⟩; obtain ⟨A4, c4, e4⟩ := Kd.R_slice hr2; subst e4; have HG2 := Aside0.mk hg2; have HR2 := Aside0.mk hr2; have HOW := Aside0.mk hown; have CB2 := Aside0.mk (blk_grown (w := wr.drew) CB.out hg2 (Kd.R_ne RR.out CB.out (by decide))); have HKB := Aside0.mk (blk_grown (w := wr.drew) HK.out hg2 (Kd.R_ne RR.out HK.out (by decide))); clear hr2 hown hg2; have hy1 : w2.cell? ⟨gO, 1, none⟩ = some (.slice (some ⟨gb, 0, none⟩) bs.length cv) := (blk_cell HKB.out 1).trans rfl; have hy2 : w2.cell? ⟨gb, i * 4 + 3, none⟩ = some (.slice A3 bx.f3.length c3) := (blk_cell CB2.out (i * 4 + 3)).trans ((blk_cell CB.out (i * 4 + 3)).symm.trans hx2); have hy3 := blk_frozen CB2.out (i * 4 + 3)))
   all_goals
    have HM2 : k58.M w2 w.heap.size oki (stripB rm bs[i]) [.string bs[i].f0, .int .i64 bs[i].f1, .int .i64 bs[i].f2, .slice A4 (List.filter (fun x => !x.f0 == rm) bx.f3).length c4] := k58_mkM w2 w.heap.size oki (stripB rm bs[i]) (show k60.R 60 w2 w.heap.size oki _ (bs[i].f3.filter fun p => !(p.f0 == rm)) from by rw [BX.out]; exact HR2.out)
    have HS3 := (Kd.S_seg0 (Kd.H_grown (Kd.H_drew HH.out) HG2.out (fun k hk => RR.out.1 k hk)) (by omega) (by omega) (seg := [.slice A4 (List.filter (fun x => !x.f0 == rm) bx.f3).length c4]) (j := 3) (Nat.le_refl 4) (x' := stripB rm bs[i]) HM2 (fun _ hk => hk)).1
    rw [Int.toNat_natCast, part_set _ _ _ hlt] at HS3
    have HS4 := Aside0.mk HS3
    have HK4 := Aside0.mk ((Below.heap_setCell w2 ⟨gb, i * 4 + 3, none⟩ (.slice A4 (List.filter (fun x => !x.f0 == rm) bx.f3).length c4) gO HNE).trans HKB.out)
    have HW4 := Aside0.mk ((HW.out.drew.grown (w := wr.drew) HG2.out HW.out.size (fun k hk => Kd.R_base RR.out k hk)).setCell (p := ⟨gb, i * 4 + 3, none⟩) hgb (.slice A4 (List.filter (fun x => !x.f0 == rm) bx.f3).length c4))
    have HZ4 := Aside0.mk (keep29_set (p := ⟨gb, i * 4 + 3, none⟩) (.slice A4 (List.filter (fun x => !x.f0 == rm) bx.f3).length c4) (keep29_grown (w1 := wr.drew) (keep29_below HZ.out (below_drew (Below.refl _ _))) HG2.out (fun g cs hg => Kd.R_ne RR.out (show wr.heap[g]? = _ from hg) (by decide))) (fun g cs hg => blk_ne hg CB2.out (by decide)))
    clear HM2 HS3 HK HW HZ HS HG2 HR2 HOW RR HH
    go_wp2
    go_roundg (bs.length - (i + 1))
    all_goals (first | omega | exact ⟨i + 1, by omega, by omega, by simp, HK4, ⟨HS4.out⟩, HW4, HZ4⟩)
  ·have hieq : i = bs.length := by omega
   subst hieq
   have BB := Aside0.mk (blk_bel HBB.out HW.out)
   have hb1 : wr.cell? ⟨B, 0, none⟩ = some (.int .i64 rm) := (blk_cell BB.out 0).trans rfl
   go_wp2_with (go_at_call 70; refine (impl_in.calls rm 1 1000 t _ HT.out).mono ?_; rintro e w5 ⟨rfl, hb5⟩; have HB5 := Aside0.mk hb5; clear hb5)
   go_ret
   have HB6 := Aside0.mk (show Below wr.heap.size wr w5 from HB5.out.below)
   refine ⟨rfl, _, blk_bel HK.out HB6.out, ?_, HW.out.trans (HB6.out.mono HW.out.size), (keep29_below HZ.out HB6.out).1, (keep29_below HZ.out HB6.out).2⟩
   rw [← part_end]
   exact Kd.S_below HS.out HB6.out
def impl_WithoutRoom.f (k : Nat) (a0 : Int) (l0 : List S58) (a1 : Int) : Option (Int × List S58 × Bool) := changedF k (doWR a1) a0 l0
theorem impl_WithoutRoom.mono : ∀ a0 a1 a2 k, LeO (impl_WithoutRoom.f k a0 a1 a2) (impl_WithoutRoom.f (k + 1) a0 a1 a2) := fun _ _ _ k => changedF_mono _ k _ _
set_option maxHeartbeats 8000000 in
set_option maxRecDepth 100000 in
theorem impl_WithoutRoom.calls (k : Nat) (a0 : Int) (A0 : Option Addr) (c0 : Nat) (l0 : List S58) (a1 : Int) (r1 : Int) (r2 : List S58) (r3 : Bool) (w : World) (hr0 : Kd.C k58 w A0 l0.length l0) (hc0 : l0.length ≤ c0) (h : impl_WithoutRoom.f k a0 l0 a1 = some (r1, r2, r3)) :
  Calls Try.prog 43 #[.agg #[.int .i64 a0, .slice A0 l0.length c0], .int .i64 a1] w fun e w' => ∃ v1_ : Value, e = .returned (.tuple #[.agg #[.int .i64 r1, v1_], .bool r3]) ∧ Kd.S k58 58 w' w.heap.size (fun _ => True) v1_ r2 ∧ Below w.heap.size w w' := by
 have HR0 := Aside0.mk hr0
 have HC0 := Aside0.mk hc0
 have HH := Aside0.mk (show changedF k (doWR a1) a0 l0 = some (r1, r2, r3) from h)
 have eg := Aside0.mk (enters_of (P := Try.prog) Try.func86 (by kernel_rfl) rfl : ∀ args w, (callFunc 86 args).run Try.prog w = .ok (.enter 86 args) w)
 have z1 : (w.alloc (.cells #[.int .i64 a0, .slice A0 l0.length c0] 29)).heap.size = w.heap.size + 1 := by simp
 have z2 : ((w.alloc (.cells #[.int .i64 a0, .slice A0 l0.length c0] 29)).alloc (.cells #[.int .i64 a1] 2)).heap.size = w.heap.size + 2 := by simp
 have z3 := Aside0.mk (show (((w.alloc (.cells #[.int .i64 a0, .slice A0 l0.length c0] 29)).alloc (.cells #[.int .i64 a1] 2)).alloc (.cells #[.int .i64 0, .slice none 0 0] 29)).heap.size = w.heap.size + 3 by simp)
 have bB0 := heap_alloc_new (w.alloc (.cells #[.int .i64 a0, .slice A0 l0.length c0] 29)) (.cells #[.int .i64 a1] 2)
 rw [z1] at bB0
 have bB := Aside0.mk (blk_alloc bB0 (.cells #[.int .i64 0, .slice none 0 0] 29))
 have b40 := heap_alloc_new ((w.alloc (.cells #[.int .i64 a0, .slice A0 l0.length c0] 29)).alloc (.cells #[.int .i64 a1] 2)) (.cells #[.int .i64 0, .slice none 0 0] 29)
 rw [z2] at b40
 have b4 := Aside0.mk b40
 have HB := Aside0.mk (below_alloc (below_alloc (below_alloc (Below.refl w.heap.size w) (.cells #[.int .i64 a0, .slice A0 l0.length c0] 29)) (.cells #[.int .i64 a1] 2)) (.cells #[.int .i64 0, .slice none 0 0] 29))
 have CP := Aside0.mk (fun hC => (changedPost_calls k 86 #[.pointer (some ⟨w.heap.size + 1, 0, none⟩)] eg.out (doWR a1) (fun W => Below (((w.alloc (.cells #[.int .i64 a0, .slice A0 l0.length c0] 29)).alloc (.cells #[.int .i64 a1] 2)).alloc (.cells #[.int .i64 0, .slice none 0 0] 29)).heap.size (((w.alloc (.cells #[.int .i64 a0, .slice A0 l0.length c0] 29)).alloc (.cells #[.int .i64 a1] 2)).alloc (.cells #[.int .i64 0, .slice none 0 0] 29)) W) (((w.alloc (.cells #[.int .i64 a0, .slice A0 l0.length c0] 29)).alloc (.cells #[.int .i64 a1] 2)).alloc (.cells #[.int .i64 0, .slice none 0 0] 29)) (fun _ h => h) (fun W W' h1 h2 h3 => h1.trans (h3.mono h2)) (fun W g j u h1 h2 => h1.setCell (p := ⟨g, j, none⟩) h2 u) (wr_do a1 (w.heap.size + 1) _ bB.out) a0 A0 c0 l0 r1 r2 r3 hC HC0.out HH.out))
 clear hr0 hc0 h z1 z2 bB0 b40
 go_enter Try.func43, Try.ntmps43
 go_wp2_with (go_at_call 81; (with_reducible refine (CP.out ?s81).mono ?_); (case s81 => repeat (first | exact HR0.out | (with_reducible refine Kd.C_alloc ?_ _))); rintro e w5 ⟨v1_, rfl, hs5, hb5, _⟩; obtain ⟨Av, cv, ev⟩ := Kd.S_slice hs5; subst ev; have S5 := Aside0.mk (Kd.S_lower hs5 HB.out.size); have B5 := Aside0.mk (HB.out.trans (hb5.mono HB.out.size)); have b45 := Aside0.mk (blk_bel b4.out hb5); clear hs5 hb5; have hz0 : w5.cell? ⟨w.heap.size + 2, 0, none⟩ = some (.int .i64 0) := (blk_cell b45.out 0).trans rfl; have hz1 : w5.cell? ⟨w.heap.size + 2, 1, none⟩ = some (.slice none 0 0) := (blk_cell b45.out 1).trans rfl; have hf0 := blk_frozen b45.out 0; have hf1 := blk_frozen b45.out 1)
 refine bodyPost_ret (results_ct rfl _ _ (w.heap.size + 2) 29 #[.int .i64 r1, .slice Av r2.length cv] (0, 0) _ rfl (by refine blk_put (cs := #[.int .i64 r1, .slice none 0 0]) ?_ 1 _ rfl; refine blk_put (cs := #[.int .i64 0, .slice none 0 0]) ?_ 0 _ rfl; exact b45.out) Try.underlying29 rfl (by kernel_rfl)) rfl ?_
 exact ⟨_, rfl, Kd.S_mono (Kd.S_far (p := ⟨w.heap.size + 2, 1, none⟩) (Kd.S_far (p := ⟨w.heap.size + 2, 0, none⟩) (Kd.S_types S5.out b45.out (by decide)) (fun _ hk => hk.2) _) (fun _ hk => hk.2) _) (fun _ _ => trivial), below_set (below_set B5.out (by omega)) (by omega)⟩


end Go.Proofs.Ytgpiaeklhhacjaa.XFnExactWithoutRoom
