-- Written by a program of this session (wip/xprint: over the kit's print). Not trusted: Lean checks it.
import Derived.Test.YtgpiaeklhhacjaaXFnFairx0
import Derived.Test.YtgpiaeklhhacjaaXFnFairx1
import Derived.Test.YtgpiaeklhhacjaaXFnFairx2
namespace Go.Proofs.Ytgpiaeklhhacjaa.XFnFair
open Go.RowKit Go.Proofs.YtgpiaeklhhacjaaW.PrintWords Go.Proofs.YtgpiaeklhhacjaaW.PrintLast Go.Proofs.YtgpiaeklhhacjaaW.PrintMore
open Go.Proofs.Ytgpiaeklhhacjaa.XW
attribute [local go_sem] max2_int min2_int max_two min_two max_three min_three max_four min_four   -- for this text's walks alone
set_option linter.unusedVariables false
set_option linter.unusedSimpArgs false

attribute [local go_sem high] eqA60
/-! ### impl_rooms: function 99 -/
def impl_rooms.l0 : Nat → List Int → List (S60) → Int → Int → Option (List Int)
 | 0, _, _, _, _ => none
 | k + 1, x3, x7, x8, x9 => if x9 < x8 then (if 0 ≤ x9 then (if x9 < (x7.length : Int) then (if x3.length < 17592186044416 then (impl_rooms.l0 k (x3 ++ [(rd_T60 x7 x9).f0]) x7 x8 (wrap64 (x9 + 1))) else (none)) else (none)) else (none)) else ((slices_Sort.f x3).bind fun t144 => ((slices_Compact.f t144).bind fun t145 => (some t145)))
def impl_rooms.f (k : Nat) (l0 : List (S60)) : Option (List Int) := impl_rooms.l0 k (([] : List Int)) l0 (l0.length : Int) 0
theorem impl_rooms.mono_l : ∀ k, (∀ y0 y1 y2 y3, LeO (impl_rooms.l0 k y0 y1 y2 y3) (impl_rooms.l0 (k + 1) y0 y1 y2 y3))
 | 0 => fun _ _ _ _ r h => by simp [impl_rooms.l0] at h
 | k + 1 => by
  have ih0 := impl_rooms.mono_l k
  ·intro y0 y1 y2 y3
   unfold impl_rooms.l0
   repeat' first
   | (with_reducible exact ih0 _ _ _ _)
   | (with_reducible exact LeO.refl _)
   | (with_reducible exact LeO.none _)
   | (with_reducible refine LeO.ite ?_ ?_)
   | (with_reducible refine LeO.bind ?_ (fun _ => ?_))
   | exact ih0 _ _ _ _
   | exact LeO.none _
   | refine LeO.ite ?_ ?_
   | refine LeO.bind ?_ (fun _ => ?_)
theorem impl_rooms.mono : ∀ a0 k, LeO (impl_rooms.f k a0) (impl_rooms.f (k + 1) a0) := by
 intro a0 k
 have ih0 := impl_rooms.mono_l k
 unfold impl_rooms.f
 repeat' first
   | (with_reducible exact ih0 _ _ _ _)
   | (with_reducible exact LeO.refl _)
   | (with_reducible exact LeO.none _)
   | (with_reducible refine LeO.ite ?_ ?_)
   | (with_reducible refine LeO.bind ?_ (fun _ => ?_))
   | exact ih0 _ _ _ _
   | exact LeO.none _
   | refine LeO.ite ?_ ?_
   | refine LeO.bind ?_ (fun _ => ?_)
set_option maxHeartbeats 8000000 in
set_option maxRecDepth 100000 in
theorem impl_rooms.calls (k : Nat) (A0 : Option Addr) (c0 : Nat) (l0 : List (S60)) (r : List Int) (w : World) (hr0 : Kd.C k60 w A0 l0.length l0) (hc0 : l0.length ≤ c0) (h : impl_rooms.f k l0 = some r) :
  Calls Try.prog 99 #[.slice A0 l0.length c0] w fun e w' => ∃ v0_ : Value, e = .returned (v0_) ∧ Kd.R (Kd.int .i64) 2 w' w.heap.size (fun _ => True) v0_ r ∧ Below w.heap.size w w' := by
 have hu60 := Try.underlying60
 have HR0 := Aside0.mk hr0
 have HC0 := Aside0.mk hc0
 clear hr0 hc0
 have HB := Aside0.mk (Below.refl w.heap.size w)
 have H : (impl_rooms.l0 k (([] : List Int)) l0 (l0.length : Int) 0) = some r := h
 clear h
 obtain ⟨y136, hy136⟩ : ∃ y_ : List Int, y_ = (([] : List Int)) := ⟨_, rfl⟩
 replace H : (impl_rooms.l0 k y136 l0 (l0.length : Int) 0) = some r := by first | (rw [hy136]; with_reducible exact H) | (have H2_ := (Option.bind_some _ _).symm.trans H; rw [hy136]; with_reducible exact H2_) | (have H2_ := (Option.bind_some _ _).symm.trans H; with_reducible exact H2_) | with_reducible exact H | (rw [hy136]; exact H) | exact H
 have Ny136 := Aside0.mk hy136
 clear hy136
 have H' := Aside0.mk H
 clear H
 go_enter Try.func99, Try.ntmps99
 go_wp2_with (first | ((with_reducible refine gate_dst (N := 6) rfl ?_); refine Kd.R_lit (Kd.int .i64) _ 2 ?hg (N := 6) ?hd (xs := ([] : List Int)) (inner := []) (ok := fun _ => True) (okp := fun _ => True) ?hr ?hp (fun _ hk => hk) trivial (Below.refl _ _) (Nat.le_refl _) (by simp) ?_; (case hd => rfl); (case hg => rfl); (case hr => first | (go_simp; done) | (go_simp; rfl)); (case hp => exact (Reps.none _ _)); intro v137 w2 ho3 hb hg_ hnew_; clear hg_ hnew_; (first | rw [← Ny136.out] at ho3 | (simp only [Int.reduceToNat] at ho3; rw [← Ny136.out] at ho3)); have n0_ := Aside0.mk (Kd.R_lower ho3 (below_size (by repeat (first | (with_reducible first | exact HB.out | apply below_alloc | apply pw_below_drewN | apply below_drew1) | exact HB.out)))); have n1_ := Aside0.mk (below_step (by repeat (first | (with_reducible first | exact HB.out | apply below_alloc | apply pw_below_drewN | apply below_drew1) | exact HB.out)) hb); clear HB; have HO138 := n0_; have HB := n1_; clear n0_ n1_; clear hb ho3))
 go_loopg [3, 9] k (fun kq v3 v9 w' => ∃ (x3_1 : List Int) (x9_1 : Int), v9 = .int .i64 x9_1 ∧ Aside0 (impl_rooms.l0 kq x3_1 l0 (l0.length : Int) x9_1 = some r) ∧ Aside0 (kq ≤ k) ∧ Aside0 (Kd.R (Kd.int .i64) 2 w' w.heap.size (fun _ => True) v3 x3_1) ∧ Aside0 (Below w.heap.size w w'))
 case atStart => exact ⟨(y136), (0), (by first | rfl | (simp; done) | (simp [*]; done)), H', ⟨Nat.le_refl _⟩, ⟨by (with_reducible repeat (first | apply Kd.R_alloc | apply Kd.R_drewN | apply Kd.R_drew)); exact HO138.out⟩, ⟨by repeat (first | (with_reducible first | exact HB.out | apply below_alloc | apply pw_below_drewN | apply below_drew1) | exact HB.out)⟩⟩
 case round =>
  clear H'
  try clear p2
  obtain ⟨x3_1, x9_1, rfl, HA, HK1, HO_3, HB⟩ := hrel
  cases gk with
  | zero => exact absurd HA.out (by simp [impl_rooms.l0])
  | succ k1 =>
   have H := HA.out
   clear HA
   simp only [impl_rooms.l0] at H
   by_cases c4 : x9_1 < (l0.length : Int)
   ·rw [if_pos c4] at H
    have c4b0 : decide (x9_1 < (l0.length : Int)) = true := decide_eq_true c4
    clear c4
    by_cases c5 : 0 ≤ x9_1
    ·rw [if_pos c5] at H
     have c5b0 : decide (0 ≤ x9_1) = true := decide_eq_true c5
     clear c5
     by_cases c6 : x9_1 < (l0.length : Int)
     ·rw [if_pos c6] at H
      have c6b0 : decide (x9_1 < (l0.length : Int)) = true := decide_eq_true c6
      clear c6
      by_cases c7 : x3_1.length < 17592186044416
      ·rw [if_pos c7] at H
       have LMc7 := Aside0.mk c7
       clear c7
       obtain ⟨y141, hy141⟩ : ∃ y_ : List Int, y_ = (x3_1 ++ [(rd_T60 l0 x9_1).f0]) := ⟨_, rfl⟩
       replace H : (impl_rooms.l0 k1 y141 l0 (l0.length : Int) (wrap64 (x9_1 + 1))) = some r := by first | (rw [hy141]; with_reducible exact H) | (have H2_ := (Option.bind_some _ _).symm.trans H; rw [hy141]; with_reducible exact H2_) | (have H2_ := (Option.bind_some _ _).symm.trans H; with_reducible exact H2_) | with_reducible exact H | (rw [hy141]; exact H) | exact H
       have Ny141 := Aside0.mk hy141
       clear hy141
       have H' := Aside0.mk H
       clear H
       have p139 : 0 ≤ (x9_1 : Int) := of_decide_eq_true (by first | (with_reducible assumption) | assumption)
       have q139 : x9_1 < (l0.length : Int) := of_decide_eq_true (by first | (with_reducible assumption) | assumption)
       obtain ⟨ad139, e139, hx139_0, hx139_1⟩ := at_T60 HR0.out x9_1 p139 q139
       cases e139
       replace hx139_0 := (HB.out.cell (World.block_lt_of_cell? w _ hx139_0)).trans hx139_0
       replace hx139_1 := (HB.out.cell (World.block_lt_of_cell? w _ hx139_1)).trans hx139_1
       replace p139 := eq_true p139
       replace q139 := eq_true q139
       go_wp2_with (first | ((with_reducible refine gate_dst (N := 5) rfl ?_); refine box_event ?hg (N := 5) ?hd (cs := #[.int .i64 0, .int .i64 0]) (t := 60) ?hr ?_; (case hd => rfl); (case hg => rfl); (case hr => first | (go_simp; done) | (go_simp; rfl)); intro gb140 hg w8 hbox hb; have n0_ := Aside0.mk (Kd.R_below (by (with_reducible repeat (first | apply Kd.R_alloc | apply Kd.R_drewN | apply Kd.R_drew)); exact HO_3.out) hb); have n1_ := Aside0.mk (below_step (by repeat (first | (with_reducible first | exact HB.out | apply below_alloc | apply pw_below_drewN | apply below_drew1) | exact HB.out)) hb); have n2_ := Aside0.mk (hbox); have n3_ := Aside0.mk ((by rw [hg]; exact (below_size (by repeat (first | (with_reducible first | exact HB.out | apply below_alloc | apply pw_below_drewN | apply below_drew1) | exact HB.out))) : w.heap.size ≤ gb140)); have n4_ := Aside0.mk ((by rw [hg]; exact (below_size (by repeat (first | (with_reducible first | exact HB.out | apply below_alloc | apply pw_below_drewN | apply below_drew1) | exact HB.out))) : w.heap.size ≤ gb140)); clear HO_3; clear HB; have HO_3 := n0_; have HB := n1_; have BK140 := n2_; have GW140 := n3_; have GE140 := n4_; clear n0_ n1_ n2_ n3_ n4_; clear hb hbox hg; have hcz9_0 : w8.cell? ⟨gb140, 0, none⟩ = some (.int .i64 0) := (blk_cell BK140.out 0).trans rfl; have hcz9_1 : w8.cell? ⟨gb140, 1, none⟩ = some (.int .i64 0) := (blk_cell BK140.out 1).trans rfl; have hfz9_0 := blk_frozen BK140.out 0; have hfz9_1 := blk_frozen BK140.out 1) | ((with_reducible refine gate_builtin (b := .append) (xs := #[.tmp 13, .tmp 16]) rfl ?_); at_builtin; refine Kd.R_append (Kd.int .i64) (w0 := w) w.heap.size rfl (.tmp 13) (.tmp 16) 38 2 (.int .i64 0) 8 rfl Try.underlying38 info2 rfl (by decide) (by omega) u3 x3_1 ((rd_T60 l0 x9_1).f0) [.int .i64 ((rd_T60 l0 x9_1).f0)] (fun _ => True) (fun _ => False) rfl (by first | (go_simp; done) | (go_simp; rfl)) ?aP (fun _ hk => hk.elim) ?aF ?aO ?aB ?aS ?aL ?_; (case aP => exact rfl); (case aB => exact (by repeat (first | (with_reducible first | exact HB.out | apply below_alloc | apply pw_below_drewN | apply below_drew1 | refine below_set ?_ GE140.out) | exact HB.out))); (case aF => exact (fun _ _ => trivial)); (case aO => exact (by (with_reducible repeat (first | apply Kd.R_alloc | apply Kd.R_drewN | apply Kd.R_drew)); exact Kd.R_mono (Kd.R_far (p := ⟨gb140, 1, none⟩) (Kd.R_far (p := ⟨gb140, 0, none⟩) (Kd.R_types HO_3.out BK140.out (by decide)) (fun _ hk => hk.2) (.int .i64 ((rd_T60 l0 x9_1).f0))) (fun _ hk => hk.2) (.int .i64 ((rd_T60 l0 x9_1).f1))) (fun _ hk => trivial))); (case aS => exact (below_size (by repeat (first | (with_reducible first | exact HB.out | apply below_alloc | apply pw_below_drewN | apply below_drew1 | refine below_set ?_ GE140.out) | exact HB.out)))); (case aL => have := LMc7.out; omega); intro v142 w10 ho hb hg hat; rw [← Ny141.out] at ho; have n0_ := Aside0.mk (blk_grown (g := gb140) (o := .cells #[.int .i64 ((rd_T60 l0 x9_1).f0), .int .i64 ((rd_T60 l0 x9_1).f1)] 60 (0, 0)) (by (with_reducible repeat (first | refine blk_drewN ?_ _ | refine blk_drew ?_ | refine blk_alloc ?_ _)); refine blk_put (cs := #[.int .i64 ((rd_T60 l0 x9_1).f0), .int .i64 0]) ?_ 1 _ rfl; (with_reducible repeat (first | refine blk_drewN ?_ _ | refine blk_drew ?_ | refine blk_alloc ?_ _)); refine blk_put (cs := #[.int .i64 0, .int .i64 0]) ?_ 0 _ rfl; (with_reducible repeat (first | refine blk_drewN ?_ _ | refine blk_drew ?_ | refine blk_alloc ?_ _)); exact BK140.out) hg (Kd.R_ne HO_3.out BK140.out (by decide))); have n1_ := Aside0.mk (hb); have n2_ := Aside0.mk (ho); clear BK140; clear HB; clear HO_3; have BK140 := n0_; have HB := n1_; have HO143 := n2_; clear n0_ n1_ n2_; clear ho hb hg hat))
       go_roundg k1
       case measure => have := HK1.out; omega
       case rel => exact ⟨(y141), (wrap64 (x9_1 + 1)), (by first | rfl | (simp; done) | (simp [*]; done)), H', ⟨by have := HK1.out; omega⟩, ⟨by (with_reducible repeat (first | apply Kd.R_alloc | apply Kd.R_drewN | apply Kd.R_drew)); exact HO143.out⟩, ⟨by repeat (first | (with_reducible first | exact HB.out | apply below_alloc | apply pw_below_drewN | apply below_drew1 | refine below_set ?_ GE140.out) | exact HB.out)⟩⟩
      ·rw [if_neg c7] at H
       exact absurd H (by simp)
     ·rw [if_neg c6] at H
      exact absurd H (by simp)
    ·rw [if_neg c5] at H
     exact absurd H (by simp)
   ·rw [if_neg c4] at H
    have c4b0 : decide (x9_1 < (l0.length : Int)) = false := decide_eq_false c4
    clear c4
    replace H := Option.bind_eq_some_iff.mp H
    obtain ⟨t144, A110, H⟩ := H
    replace H : ((slices_Compact.f t144).bind fun t145 => (some t145)) = some r := H
    have A11 := Aside0.mk A110
    clear A110
    replace H := Option.bind_eq_some_iff.mp H
    obtain ⟨t145, A120, H⟩ := H
    replace H : (some t145) = some r := H
    have A12 := Aside0.mk A120
    clear A120
    obtain rfl := Option.some.inj H
    obtain ⟨Ao13, co13, eo13⟩ := Kd.R_slice HO_3.out
    subst eo13
    go_wp2_with (first | ((with_reducible refine gate_callee (f := 119) rfl ?_); refine goesL_ (some 20) rfl rfl Try.func119 (by kernel_rfl) rfl #[.slice Ao13 x3_1.length co13] rfl (by (try simp only [List.map_toArray, List.map_cons, List.map_nil]); first | done | rfl | (simp only [List.length_drop, List.length_take]; rfl)) ?_; (with_reducible refine (slices_Sort.calls (fun k_ => some k_ = (.slice Ao13 x3_1.length co13 : Value).ownBlock) (.slice Ao13 x3_1.length co13) x3_1 t144 w _ ?side1 ?side2 A11.out).mono ?_); (case side1 => repeat (first | (with_reducible first | exact HB.out | apply below_alloc | apply pw_below_drewN | apply below_drew1) | exact HB.out)); (case side2 => exact Kd.R_tight rfl HO_3.out); rintro e w14 ⟨rfl, hy0, hb, hkp⟩; refine ⟨_, rfl, ?_⟩; have n0_ := Aside0.mk (Kd.R_reok rfl hy0 (fun k_ e_ => HO_3.out.1 k_ e_)); have n1_ := Aside0.mk (hb); clear HO_3; clear HB; have HO_3 := n0_; have HB := n1_; clear n0_ n1_; (try clear hb); (try clear hkp); (try clear hy0)) | ((with_reducible refine gate_callee (f := 120) rfl ?_); refine goesL_ (some 22) rfl rfl Try.func120 (by kernel_rfl) rfl #[.slice Ao13 x3_1.length co13] rfl (by (try simp only [List.map_toArray, List.map_cons, List.map_nil]); first | done | rfl | (simp only [List.length_drop, List.length_take]; rfl)) ?_; (with_reducible refine (slices_Compact.calls (fun k_ => some k_ = (.slice Ao13 x3_1.length co13 : Value).ownBlock) (.slice Ao13 x3_1.length co13) t144 t145 w _ ?side1 ?side2 A12.out).mono ?_); (case side1 => repeat (first | (with_reducible first | exact HB.out | apply below_alloc | apply pw_below_drewN | apply below_drew1) | exact HB.out)); (case side2 => exact Kd.R_tight rfl HO_3.out); rintro e w15 ⟨v146, rfl, ho0, hb, hkp⟩; refine ⟨_, rfl, ?_⟩; have n0_ := Aside0.mk (Kd.R_mono (ok' := fun k_ => True) ho0 (fun k_ hk_ => trivial)); have n1_ := Aside0.mk (hb); clear HB; clear HO_3; have HO147 := n0_; have HB := n1_; clear n0_ n1_; (try clear hb); (try clear hkp); (try clear ho0)))
    go_ret
    exact ⟨_, by first | rfl | (simp [errW_none, errW_some] <;> rfl) | (simp [*, errW_none, errW_some] <;> rfl), by (with_reducible repeat (first | apply Kd.R_alloc | apply Kd.R_drewN | apply Kd.R_drew)); exact HO147.out, by repeat (first | (with_reducible first | exact HB.out | apply below_alloc | apply pw_below_drewN | apply below_drew1) | exact HB.out)⟩

/-! ### slices_DeleteP: function 104 (by hand); rows of parcels -/
theorem zeroCells_all {zc : Array Value} {n : Nat} {q : Value → Prop} (hz : 0 < zc.size) (h : ∀ u ∈ zc, q u) : ∀ u ∈ (Builtin.zeroCells zc n).toList, q u := by
 intro u hu
 unfold Builtin.zeroCells at hu
 rw [Array.toList_map, List.mem_map] at hu
 obtain ⟨i, _, rfl⟩ := hu
 have : i % zc.size < zc.size := Nat.mod_lt _ hz
 rw [getElem!_pos zc _ this]
 exact h _ (Array.getElem_mem this)
theorem run_clear_cells {P : Program} (w : World) (t e ty : TypeId) (z : Value) (ht : P.underlying t = some (.slice e)) (hv : ∀ w, (zeroValue e).run P w = .ok z w) (b o n c : Nat) (h1 : ∀ u ∈ (Builtin.zeroCells z.cells n).toList, u.oneCell' = true) (hn : 0 < n)
  (hc : ∀ j, j < (Builtin.zeroCells z.cells n).toList.length → (w.cell? ⟨b, o + j, none⟩).isSome = true) (hf : ∀ j, j < (Builtin.zeroCells z.cells n).toList.length → w.frozen? ⟨b, o + j, none⟩ = false) :
  (Builtin.clear_ #[t] ty #[.slice (some ⟨b, o, none⟩) n c]).run P w = .ok (.tuple #[]) (w.setCells b o (Builtin.zeroCells z.cells n).toList) := by
 have hst := run_storeCells_cells (P := P) b o (Builtin.zeroCells z.cells n).toList 0 w (by simpa using hc) (by simpa using hf) h1
 simp only [Nat.add_zero] at hst
 obtain ⟨m, rfl⟩ : ∃ m, n = m + 1 := ⟨n - 1, by omega⟩
 simp [Builtin.clear_, run_underlying ht, hv, hst]
set_option maxHeartbeats 4000000 in
set_option maxRecDepth 100000 in
theorem delete_raw (g n cap i j : Nat) (cur : Array Value) (w : World) (hb : w.heap[g]? = some (.cells cur 60 (0, 0))) (hone : ∀ u ∈ cur.toList.take (n * 2), u.oneCell' = true) (hsz : cur.size = cap * 2) (hn : n ≤ cap) (hm : cap ≤ 9223372036854775807) (hij : i < j) (hj : j ≤ n) :
  Calls Try.prog 104 #[.slice (some ⟨g, 0, none⟩) n cap, .int .i64 i, .int .i64 j] w fun e w' => e = .returned (.slice (some ⟨g, 0, none⟩) (n - (j - i)) cap) ∧ w.grownBy w' (some g) ∧
   ∃ cur', w'.heap[g]? = some (.cells cur' 60 (0, 0)) ∧ cur'.size = cur.size ∧ cur'.toList.take ((n - (j - i)) * 2) = cur.toList.take (i * 2) ++ (cur.toList.take (n * 2)).drop (j * 2) := by
 obtain ⟨i0, hi0, hz0, hz1, hz2⟩ := info_parts info60
 obtain ⟨news, hnews⟩ : ∃ news, news = (cur.toList.take (n * 2)).drop (j * 2) := ⟨_, rfl⟩
 have hnl : news.length = (n - j) * 2 := by rw [hnews, List.length_drop, List.length_take, Array.length_toList]; omega
 have hget : ∀ t u, news[t]? = some u → w.cell? ⟨g, j * 2 + t, none⟩ = some u := by
  intro t u hu
  rw [hnews, List.getElem?_drop, List.getElem?_take] at hu
  split at hu
  ·rw [blk_cell hb, ← Array.getElem?_toList]; exact hu
  ·cases hu
 obtain ⟨A, hA, hsrc⟩ : ∃ A : Addr, (if cap = j then some (⟨g, 0, none⟩ : Addr) else some ⟨g, j * 2, none⟩) = some A ∧ Hid (∀ t u, news[t]? = some u → w.drew.cell? (A.add t) = some u) := by
  by_cases h : cap = j
  ·refine ⟨⟨g, 0, none⟩, by simp [h], fun t u hu => ?_⟩
   have h0 : news.length = 0 := by rw [hnl]; omega
   rw [List.length_eq_zero_iff.1 h0] at hu
   simp at hu
  ·refine ⟨⟨g, j * 2, none⟩, by simp [h], fun t u hu => ?_⟩
   rw [Addr.add_lit]
   exact hget t u hu
 have s1 : Hid (news.length = (n - j) * 2) := hnl
 have hone2 : ∀ u ∈ news, u.oneCell' = true := by
  intro u hu
  rw [hnews] at hu
  exact hone u (List.mem_of_mem_drop hu)
 have s2 : Hid (∀ u ∈ news, u.oneCell' = true) := hone2
 have hbd : w.drew.heap[g]? = some (.cells cur 60 (0, 0)) := hb
 have cells_in : ∀ (W : World) (cs : Array Value) (o m : Nat), W.heap[g]? = some (.cells cs 60 (0, 0)) → o + m ≤ cs.size → ∀ t, t < m → (W.cell? ⟨g, o + t, none⟩).isSome = true ∧ W.frozen? ⟨g, o + t, none⟩ = false := by
  intro W cs o m hW hle t ht
  refine ⟨?_, blk_frozen hW _⟩
  rw [blk_cell hW, Array.getElem?_eq_getElem (by omega)]; rfl
 have s3 : Hid (∀ t, t < news.length → (w.drew.cell? ⟨g, 0 + i * 2 + t, none⟩).isSome = true ∧ w.drew.frozen? ⟨g, 0 + i * 2 + t, none⟩ = false) := by
  intro t ht
  rw [Nat.zero_add]
  exact cells_in w.drew cur (i * 2) news.length hbd (by omega) t ht
 obtain ⟨W1, hW1⟩ : ∃ W1, W1 = w.drew.setCells g (0 + i * 2) news := ⟨_, rfl⟩
 obtain ⟨cur1, c1, c2, c3⟩ := setCells_row (g := g) news (0 + i * 2) w.drew cur hbd (by omega)
 rw [← hW1] at c1
 obtain ⟨zs, hzs⟩ : ∃ zs, zs = (Builtin.zeroCells (Value.agg #[(.int .i64 0), (.int .i64 0)]).cells (n - (i + (n - j)))).toList := ⟨_, rfl⟩
 have hzl : zs.length = (n - (i + (n - j))) * 2 := by rw [hzs, Array.length_toList, size_zeroCells]; rfl
 have hz1' : ∀ u ∈ zs, u.oneCell' = true := by rw [hzs]; exact zeroCells_all (by decide) (by intro u hu; simp [Value.cells] at hu; rcases hu with rfl | rfl <;> rfl)
 have hcl : ∀ ty, (Builtin.clear_ #[52] ty #[.slice (some ⟨g, (i + (n - j)) * 2, none⟩) (n - (i + (n - j))) (cap - (i + (n - j)))]).run Try.prog W1 = .ok (.tuple #[]) (W1.setCells g ((i + (n - j)) * 2) zs) := by
  intro ty
  rw [hzs]
  exact run_clear_cells W1 52 60 ty (.agg #[(.int .i64 0), (.int .i64 0)]) Try.underlying52 (fun w => Try.zeroValue60 w) g _ _ _ (by rw [← hzs]; exact hz1') (by omega) (fun t ht => (cells_in W1 cur1 _ _ c1 (by rw [← hzs, hzl, c2]; omega) t ht).1) (fun t ht => (cells_in W1 cur1 _ _ c1 (by rw [← hzs, hzl, c2]; omega) t ht).2)
 have hW : Hid (W1 = w.drew.setCells g (0 + i * 2) news) := hW1
 have C1 := Lib.hid c1
 have C3 := Lib.hid c3
 have ZL := Lib.hid hzl
 have NW := Lib.hid hnews
 have hic : i ≤ cap := by omega
 have hjc : j ≤ cap := by omega
 clear hW1 c1 c3 hzl hz1' hzs hone2 hnews cells_in hget hnl hbd hb hone
 go_enter Try.func104, Try.ntmps104
 go_wp2_with fail
 go_region_law (refine step_append_room rfl (.tmp 22) (.tmp 25) 52 rfl 60 i0 2 Try.underlying52 hi0 hz1 g 0 i cap (by simp [Act.eval, Act.put]) A (n - j) (cap - j) news (by simp [Act.eval, Act.put]; try exact hA) s1.out hsrc.out s2.out (by omega) s3.out ?_; rw [← hW.out])
 go_wp2
 go_ret
 obtain ⟨cur2, d1, d2, d3⟩ := setCells_row (g := g) zs ((i + (n - j)) * 2) W1 cur1 C1.out (by rw [ZL.out, c2]; omega)
 refine ⟨by rw [show n - (j - i) = i + (n - j) by omega]; rfl, ?_, cur2, d1, by rw [d2, c2], ?_⟩
 ·have g1 : w.grownBy W1 (some g) := by
   rw [hW.out]
   obtain ⟨q1, q2, q3, q4⟩ := setCells_same g news (0 + i * 2) w.drew
   exact ⟨q1, q2, q3, Nat.le_of_eq q4.symm, fun k _ hk => setCells_far news (0 + i * 2) k (fun e => hk (by rw [e]))⟩
  obtain ⟨q1, q2, q3, q4⟩ := setCells_same g zs ((i + (n - j)) * 2) W1
  exact ⟨q1.trans g1.os, q2.trans g1.tape, q3.trans g1.output, by rw [q4]; exact g1.size, fun k hk hne => (setCells_far zs _ k (fun e => hne (by rw [e]))).trans (g1.block k hk hne)⟩
 ·rw [d3, C3.out, show n - (j - i) = i + (n - j) by omega, Nat.zero_add, ← NW.out]
  have l1 : (cur.toList.take (i * 2) ++ news).length = (i + (n - j)) * 2 := by rw [List.length_append, List.length_take, s1.out, Array.length_toList]; omega
  rw [List.take_left' l1, List.append_assoc, List.take_left' l1]
def encP (p : S60) : List Value := [.int .i64 p.f0, .int .i64 p.f1]
instance inhS60 : Inhabited S60 := ⟨z60⟩
theorem reps_flat : ∀ (ps : List S60) (cs : List Value) (R : S60 → List Value → Prop), (∀ p c, R p c → c = encP p) → Reps R 2 ps cs → cs = ps.flatMap encP
 | [], cs, R, hR, h => by
  have := h.1
  simp only [List.length_nil, Nat.zero_mul] at this
  rw [List.length_eq_zero_iff.1 this]; rfl
 | p :: ps, cs, R, hR, h => by
  have h0 := hR p _ (h.2 0 p rfl)
  rw [Nat.zero_mul, List.drop_zero] at h0
  have h1 : Reps R 2 ps (cs.drop 2) := ⟨by have := h.1; simp only [List.length_cons, List.length_drop] at *; omega, fun j q hj => by
   have := h.2 (j + 1) q (by simpa using hj)
   rw [List.drop_drop]
   rwa [show (j + 1) * 2 = 2 + j * 2 by omega] at this⟩
  have ih := reps_flat ps (cs.drop 2) R hR h1
  rw [List.flatMap_cons, ← ih, ← h0, List.take_append_drop]
theorem flat_reps : ∀ (ps : List S60) (R : S60 → List Value → Prop), (∀ p, R p (encP p)) → Reps R 2 ps (ps.flatMap encP)
 | [], R, _ => Reps.none _ _
 | p :: ps, R, hR => by
  obtain ⟨h1, h2⟩ := flat_reps ps R hR
  refine ⟨by rw [List.flatMap_cons, List.length_append, h1]; simp only [encP, List.length_cons, List.length_nil]; omega, fun j q hj => ?_⟩
  cases j with
  | zero => cases hj; exact hR p
  | succ j =>
   have := h2 j q (by simpa using hj)
   rw [List.flatMap_cons, show (j + 1) * 2 = 2 + j * 2 by omega, ← List.drop_drop]
   exact this
theorem flat_len (l : List S60) : (l.flatMap encP).length = l.length * 2 := (flat_reps l (fun p c => c = encP p) (fun _ => rfl)).1
theorem flat_take : ∀ (l : List S60) (i : Nat), (l.flatMap encP).take (i * 2) = (l.take i).flatMap encP
 | [], i => by simp
 | p :: l, 0 => by simp
 | p :: l, i + 1 => by
  rw [List.flatMap_cons, show (i + 1) * 2 = i * 2 + 1 + 1 by omega, List.take_succ_cons, List.flatMap_cons, ← flat_take l i]; rfl
theorem flat_drop : ∀ (l : List S60) (i : Nat), (l.flatMap encP).drop (i * 2) = (l.drop i).flatMap encP
 | [], i => by simp
 | p :: l, 0 => by simp
 | p :: l, i + 1 => by
  rw [List.flatMap_cons, show (i + 1) * 2 = i * 2 + 1 + 1 by omega, List.drop_succ_cons, ← flat_drop l i]; rfl
theorem flat_one (l : List S60) : ∀ u ∈ l.flatMap encP, u.oneCell' = true := by
 intro u hu
 obtain ⟨p, _, h⟩ := List.mem_flatMap.1 hu
 simp only [encP, List.mem_cons, List.not_mem_nil, or_false] at h
 rcases h with rfl | rfl <;> rfl
/-- A row of parcels of the call's own, opened: nil, or a block's head. -/
theorem rowP {w : World} {base : Nat} {ok : Nat → Prop} {u : Value} {l : List S60} (h : Kd.R k60 60 w base ok u l) :
  (u = .slice none 0 0 ∧ l = []) ∨ ∃ g cap cur, u = .slice (some ⟨g, 0, none⟩) l.length cap ∧ ok g ∧ base ≤ g ∧ w.heap[g]? = some (.cells cur 60 (0, 0)) ∧ l.length ≤ cap ∧ cap ≤ 9223372036854775807 ∧ cur.size = cap * 2 ∧ cur.toList.take (l.length * 2) = l.flatMap encP := by
 obtain ⟨hok, inner, hown, hr⟩ := h
 have hf := reps_flat l inner _ (fun p c hM => k60_openM hM) hr
 rcases hown.2 with ⟨rfl, hn⟩ | ⟨g, cap, cur, rfl, hbase, hb, hc1, hc2, hc3, hc4⟩
 ·exact .inl ⟨rfl, List.length_eq_zero_iff.1 hn⟩
 ·exact .inr ⟨g, cap, cur, rfl, hok g rfl, hbase, hb, hc1, by simpa [maxLen] using hc2, hc3, by rw [← hf]; exact hc4⟩
theorem mkP {w : World} {base g cap : Nat} {ok : Nat → Prop} {cur : Array Value} {l : List S60} (hok : ok g) (hbase : base ≤ g) (hb : w.heap[g]? = some (.cells cur 60 (0, 0))) (hl : l.length ≤ cap) (hc : cap ≤ 9223372036854775807) (hs : cur.size = cap * 2) (ht : cur.toList.take (l.length * 2) = l.flatMap encP) :
  Kd.R k60 60 w base ok (.slice (some ⟨g, 0, none⟩) l.length cap) l :=
 ⟨fun k hk => (show g = k from by simpa [Value.ownBlock] using hk) ▸ hok, l.flatMap encP, ⟨flat_len l, .inr ⟨g, cap, cur, rfl, hbase, hb, hl, by simpa [maxLen] using hc, hs, ht⟩⟩, flat_reps l _ (fun p => k60_mkM _ _ _ p)⟩
theorem delete_row {w : World} {base : Nat} {ok : Nat → Prop} {u : Value} {l : List S60} (i j : Nat) (hij : i < j) (hj : j ≤ l.length) (h : Kd.R k60 60 w base ok u l) :
  Calls Try.prog 104 #[u, .int .i64 i, .int .i64 j] w fun e w' => ∃ u', e = .returned u' ∧ Kd.R k60 60 w' base ok u' (l.take i ++ l.drop j) ∧ u'.ownBlock = u.ownBlock ∧ w.grownBy w' u.ownBlock := by
 rcases rowP h with ⟨rfl, rfl⟩ | ⟨g, cap, cur, rfl, hok, hbase, hb, h1, h2, h3, h4⟩
 ·simp at hj; omega
 ·refine (delete_raw g l.length cap i j cur w hb (by rw [h4]; exact flat_one l) h3 h1 h2 hij hj).mono ?_
  rintro e w' ⟨rfl, hg, cur', c1, c2, c3⟩
  have hl : (l.take i ++ l.drop j).length = l.length - (j - i) := by rw [List.length_append, List.length_take, List.length_drop]; omega
  refine ⟨_, rfl, ?_, rfl, hg⟩
  rw [← hl]
  refine mkP hok hbase c1 (by omega) h2 (by rw [c2, h3]) ?_
  rw [hl, c3, h4, flat_drop, List.flatMap_append, ← flat_take, ← h4, List.take_take, Nat.min_eq_left (by omega)]
theorem blk_bel {w w1 : World} {g : Nat} {o : Obj} (h : w.heap[g]? = some o) (hb : Below w.heap.size w w1) : w1.heap[g]? = some o := (hb.block g (blk_lt h)).trans h
theorem cellsP {w : World} {g : Nat} {l : List S60} (h : Kd.C k60 w (some ⟨g, 0, none⟩) l.length l) (j : Nat) (hj : j < l.length) : w.cell? ⟨g, j * 2, none⟩ = some (.int .i64 (l[j]!).f0) ∧ w.cell? ⟨g, j * 2 + 1, none⟩ = some (.int .i64 (l[j]!).f1) := by
 obtain ⟨ad, c, e, hc, hK, hcell⟩ := Kd.C_get h z60 (j : Int) (by omega) (by omega)
 cases e
 obtain rfl := k60_open hK
 have hx : l.getD (j : Int).toNat z60 = l[j]! := by rw [Int.toNat_natCast, List.getD_eq_getElem?_getD, List.getElem?_eq_getElem hj, getElem!_pos l j hj]; rfl
 rw [hx] at hcell
 have h0 := hcell 0 _ rfl
 have h1 := hcell 1 _ rfl
 rw [Int.toNat_natCast, add_plain] at h0 h1
 exact ⟨h0, h1⟩

/-! ### impl_FairOrder: function 54 (by hand) -/
set_option maxHeartbeats 2000000 in
/-- The place of the first parcel that a function holds of. -/
theorem indexFuncP (p : S60 → Bool) (fn : Nat) (lb : Array Value) (g c : Nat) (zs : List S60) (w : World)
  (hp : ∀ (W : World) (x : S60), Below w.heap.size w W → Calls Try.prog fn (#[.agg #[.int .i64 x.f0, .int .i64 x.f1]] ++ lb) W fun e w' => e = .returned (.bool (p x)) ∧ Below w.heap.size w w')
  (eg : ∀ args w, (callFunc fn args).run Try.prog w = .ok (.enter fn args) w) (hbig : zs.length ≤ 9223372036854775807) (hb : g < w.heap.size)
  (hc : ∀ j, j < zs.length → w.cell? ⟨g, j * 2, none⟩ = some (.int .i64 (zs[j]!).f0) ∧ w.cell? ⟨g, j * 2 + 1, none⟩ = some (.int .i64 (zs[j]!).f1)) :
  Calls Try.prog 102 #[.slice (some ⟨g, 0, none⟩) zs.length c, .func (.func fn) #[] lb] w fun e w' => e = .returned (.int .i64 (Lib.idxBy (fun _ y => p y) zs default)) ∧ Below w.heap.size w w' := by
 have hrow : ∀ (W : World), Below w.heap.size w W → ∀ j, j < zs.length → W.cell? ⟨g, j * 2, none⟩ = some (.int .i64 (zs[j]!).f0) ∧ W.cell? ⟨g, j * 2 + 1, none⟩ = some (.int .i64 (zs[j]!).f1) := fun W hW j hj =>
  ⟨(hW.cell (p := ⟨g, j * 2, none⟩) hb).trans (hc j hj).1, (hW.cell (p := ⟨g, j * 2 + 1, none⟩) hb).trans (hc j hj).2⟩
 clear hc
 go_enter Try.func102, Try.ntmps102
 go_wp2
 go_loopg [5, 8] zs.length (fun gg _ s8 wr => ∃ kk : Nat, kk ≤ zs.length ∧ zs.length - kk ≤ gg ∧ s8 = .int .i64 kk ∧ Aside0 (Below w.heap.size w wr) ∧ Aside0 (∀ j, j < kk → p zs[j]! = false))
 case atStart => exact ⟨0, Nat.zero_le _, by omega, rfl, ⟨Below.refl _ w⟩, ⟨fun j hj => absurd hj (Nat.not_lt_zero _)⟩⟩
 case round =>
  obtain ⟨kk, hkk, hg, rfl, BW, A⟩ := hrel
  by_cases hlt : kk < zs.length
  ·have hltz : (kk : Int) < (zs.length : Int) := by omega
   obtain ⟨l2, l3⟩ := hrow wr BW.out kk (by omega)
   have hcall := hp wr zs[kk]! BW.out
   clear hrow hp
   generalize hy : zs[kk]! = y at l2 l3 hcall
   have B := Aside0.mk hy
   clear hy
   cases hq : p y with
   | true =>
    rw [hq] at hcall
    go_wp2_with (go_at_fn fn; refine hcall.mono ?_; rintro e w' ⟨rfl, hb'⟩)
    go_ret
    refine ⟨?_, hb'⟩
    have := Lib.idxBy_hit (fun _ y => p y) zs zs.length kk default hlt (Nat.le_refl _) (by show p zs[kk]! = true; rw [B.out]; exact hq) A.out
    rw [List.take_length] at this
    rw [this]
    rfl
   | false =>
    rw [hq] at hcall
    go_wp2_with (go_at_fn fn; refine hcall.mono ?_; rintro e w' ⟨rfl, hb'⟩)
    go_roundg (zs.length - (kk + 1))
    case measure => omega
    case rel =>
     refine ⟨kk + 1, by omega, by omega, by go_num, ⟨hb'⟩, ⟨fun j hj => ?_⟩⟩
     by_cases e : j = kk
     ·subst e
      rw [B.out]; exact hq
     ·exact A.out j (by omega)
  ·have hltz : ¬ (kk : Int) < (zs.length : Int) := by omega
   have : kk = zs.length := by omega
   subst this
   go_wp2
   go_ret
   refine ⟨?_, BW.out⟩
   have := Lib.idxBy_miss (fun _ y => p y) zs zs.length default A.out
   rw [List.take_length] at this
   rw [this]
   rfl
theorem lit1 (n last : Int) (B : Nat) (W : World) (hc : W.cell? ⟨B, 0, none⟩ = some (.int .i64 last)) :
  Calls Try.prog 101 #[.int .i64 n, .pointer (some ⟨B, 0, none⟩)] W fun e w' => e = .returned (.bool (decide (n > last))) ∧ ∃ q, w' = W.drewN q := by
 go_enter Try.func101, Try.ntmps101
 go_wp2
 go_ret
 exact ⟨rfl, 0, rfl⟩
theorem lit2 (x : S60) (last : Int) (B : Nat) (W : World) (hc : W.cell? ⟨B, 0, none⟩ = some (.int .i64 last)) :
  Calls Try.prog 103 #[.agg #[.int .i64 x.f0, .int .i64 x.f1], .pointer (some ⟨B, 0, none⟩)] W fun e w' => e = .returned (.bool (x.f0 == last)) ∧ Below W.heap.size W w' := by
 have hlt : B < W.heap.size := World.block_lt_of_cell? W _ hc
 go_enter Try.func103, Try.ntmps103
 go_wp2
 go_ret
 exact ⟨rfl, below_alloc (Below.refl _ _) _⟩
def idxN (list : List Int) (la : Int) : Int := Lib.idxBy (fun _ n => decide (n > la)) list default
def idxR (left : List S60) (nx : Int) : Int := Lib.idxBy (fun _ p => p.f0 == nx) left default
def top0 (i : Int) : Int := if i < 0 then 0 else i
def fairL (k : Nat) : Nat → List S60 → List S60 → Int → Option (List S60)
 | 0, _, _, _ => none
 | f + 1, left, out, la =>
  if left.length = 0 then some out else
  (impl_rooms.f k left).bind fun list =>
   if 0 ≤ top0 (idxN list la) ∧ top0 (idxN list la) < list.length ∧ list.length ≤ 1000000 then
    (if 0 ≤ idxR left (list.getD (top0 (idxN list la)).toNat 0) ∧ idxR left (list.getD (top0 (idxN list la)).toNat 0) < left.length ∧ out.length < 8796093022208 ∧ left.length ≤ 1000000 then
     fairL k f (left.take (idxR left (list.getD (top0 (idxN list la)).toNat 0)).toNat ++ left.drop ((idxR left (list.getD (top0 (idxN list la)).toNat 0)).toNat + 1)) (out ++ [left.getD (idxR left (list.getD (top0 (idxN list la)).toNat 0)).toNat z60]) (list.getD (top0 (idxN list la)).toNat 0)
    else none)
   else none
def impl_FairOrder.f (k : Nat) (l0 : List S60) (a1 : Int) : Option (List S60 × Bool) := (impl_parcelsOk.f k l0).bind fun t1 => (if t1 = true then ((impl_in.f a1 0 1000).bind fun t2 => (if t2 = true then ((slices_CloneP.f l0).bind fun t3 => ((fairL k k t3 [] a1).bind fun t4 => some (t4, true))) else (some (([] : List S60), false)))) else (some (([] : List S60), false)))
theorem fairL.mono : ∀ f k left out la, LeO (fairL k f left out la) (fairL (k + 1) (f + 1) left out la)
 | 0, _, _, _, _ => LeO.none _
 | f + 1, k, left, out, la => by
  rw [fairL, fairL]
  exact LeO.ite (LeO.refl _) (LeO.bind (impl_rooms.mono _ _) fun list => LeO.ite (LeO.ite (fairL.mono f k _ _ _) (LeO.refl _)) (LeO.refl _))
theorem impl_FairOrder.mono : ∀ a0 a1 k, LeO (impl_FairOrder.f k a0 a1) (impl_FairOrder.f (k + 1) a0 a1) := by
 intro a0 a1 k
 unfold impl_FairOrder.f
 exact LeO.bind (impl_parcelsOk.mono _ _) fun t1 => LeO.ite (LeO.bind (LeO.refl _) fun t2 => LeO.ite (LeO.bind (LeO.refl _) fun t3 => LeO.bind (fairL.mono _ _ _ _ _) fun _ => LeO.refl _) (LeO.refl _)) (LeO.refl _)
set_option maxHeartbeats 8000000 in
set_option maxRecDepth 100000 in
theorem impl_FairOrder.calls (k : Nat) (A0 : Option Addr) (c0 : Nat) (l0 : List S60) (a1 : Int) (r1 : List S60) (r2 : Bool) (w : World) (hr0 : Kd.C k60 w A0 l0.length l0) (hc0 : l0.length ≤ c0) (h : impl_FairOrder.f k l0 a1 = some (r1, r2)) :
  Calls Try.prog 54 #[.slice A0 l0.length c0, .int .i64 a1] w fun e w' => ∃ v0_ : Value, e = .returned (.tuple #[v0_, .bool r2]) ∧ Kd.R k60 60 w' w.heap.size (fun _ => True) v0_ r1 ∧ Below w.heap.size w w' := by
 unfold impl_FairOrder.f at h
 obtain ⟨t1, h1, h⟩ := Option.bind_eq_some_iff.mp h
 have HR0 := Aside0.mk hr0
 have HC0 := Aside0.mk hc0
 have A1' := Aside0.mk h1
 clear hr0 hc0 h1
 cases t1 with
 | false =>
  rw [if_neg (by simp)] at h
  simp only [Option.some.injEq, Prod.mk.injEq] at h
  obtain ⟨rfl, rfl⟩ := h
  go_enter Try.func54, Try.ntmps54
  go_wp2_with (go_at_call 73; refine (impl_parcelsOk.calls k A0 c0 l0 false _ (by repeat (first | exact HR0.out | (with_reducible refine Kd.C_alloc ?_ _) | (with_reducible refine Kd.C_drewN ?_ _) | (with_reducible refine Kd.C_drew ?_))) HC0.out A1'.out).mono ?_; rintro e w1 ⟨rfl, hb1⟩; have HB1 := Aside0.mk hb1; clear hb1)
  go_ret2
  exact ⟨_, rfl, Kd.R_nil _ _ _ _ _, (below_alloc (Below.refl _ _) _).trans (HB1.out.mono (by simp))⟩
 | true =>
  rw [if_pos rfl] at h
  obtain ⟨t2, h2, h⟩ := Option.bind_eq_some_iff.mp h
  have A2' := Aside0.mk h2
  clear h2
  cases t2 with
  | false =>
   rw [if_neg (by simp)] at h
   simp only [Option.some.injEq, Prod.mk.injEq] at h
   obtain ⟨rfl, rfl⟩ := h
   go_enter Try.func54, Try.ntmps54
   go_wp2_with (first | ((with_reducible refine gate_callee (f := 73) rfl ?_); refine goesL_ (some 12) rfl rfl Try.func73 (by kernel_rfl) rfl #[.slice A0 l0.length c0] rfl (by (try simp only [List.map_toArray, List.map_cons, List.map_nil]); first | done | rfl) ?_; refine (impl_parcelsOk.calls k A0 c0 l0 true _ (by repeat (first | exact HR0.out | (with_reducible refine Kd.C_alloc ?_ _) | (with_reducible refine Kd.C_drewN ?_ _) | (with_reducible refine Kd.C_drew ?_))) HC0.out A1'.out).mono ?_; rintro e w1 ⟨rfl, hb1⟩; have HCL := Aside0.mk (show w1.cell? ⟨w.heap.size, 0, none⟩ = some (.int .i64 a1) from (hb1.cell (p := ⟨w.heap.size, 0, none⟩) (by simp)).trans (by simp)); have hcl := HCL.out; have HB1 := Aside0.mk hb1; clear hb1; refine ⟨_, rfl, ?_⟩) | (go_at_call 70; refine (impl_in.calls a1 0 1000 false _ A2'.out).mono ?_; rintro e w2 ⟨rfl, ⟨nd, rfl⟩⟩))
   go_ret2
   exact ⟨_, rfl, Kd.R_nil _ _ _ _ _, by first | exact (below_alloc (Below.refl _ _) _).trans (HB1.out.mono (by simp)) | (refine pw_below_drewN ?_ _; exact (below_alloc (Below.refl _ _) _).trans (HB1.out.mono (by simp)))⟩
  | true =>
   rw [if_pos rfl] at h
   obtain ⟨t3, h3, h⟩ := Option.bind_eq_some_iff.mp h
   obtain ⟨t4, h4, h⟩ := Option.bind_eq_some_iff.mp h
   simp only [Option.some.injEq, Prod.mk.injEq] at h
   obtain ⟨rfl, rfl⟩ := h
   have A3' := Aside0.mk h3
   have A4' := Aside0.mk h4
   clear h3 h4
   have eg101 : ∀ args w, (callFunc 101 args).run Try.prog w = .ok (.enter 101 args) w := enters_of Try.func101 (by kernel_rfl) rfl
   have eg103 : ∀ args w, (callFunc 103 args).run Try.prog w = .ok (.enter 103 args) w := enters_of Try.func103 (by kernel_rfl) rfl
   have E1 := Aside0.mk eg101
   have E3 := Aside0.mk eg103
   clear eg101 eg103
   go_enter Try.func54, Try.ntmps54
   go_wp2_with (first | ((with_reducible refine gate_callee (f := 73) rfl ?_); refine goesL_ (some 12) rfl rfl Try.func73 (by kernel_rfl) rfl #[.slice A0 l0.length c0] rfl (by (try simp only [List.map_toArray, List.map_cons, List.map_nil]); first | done | rfl) ?_; refine (impl_parcelsOk.calls k A0 c0 l0 true _ (by repeat (first | exact HR0.out | (with_reducible refine Kd.C_alloc ?_ _) | (with_reducible refine Kd.C_drewN ?_ _) | (with_reducible refine Kd.C_drew ?_))) HC0.out A1'.out).mono ?_; rintro e w1 ⟨rfl, hb1⟩; have HBX := Aside0.mk (blk_bel (heap_alloc_new w (.cells #[.int .i64 a1] 2)) hb1); have hcl := blk_cell HBX.out 0; simp at hcl; have HB := Aside0.mk ((below_alloc (Below.refl w.heap.size w) (.cells #[.int .i64 a1] 2)).trans (hb1.mono (by simp))); clear hb1; refine ⟨_, rfl, ?_⟩) | (go_at_call 70; refine (impl_in.calls a1 0 1000 true _ A2'.out).mono ?_; rintro e w2 ⟨rfl, ⟨nd, rfl⟩⟩; have n0_ := Aside0.mk (show (w1.drewN nd).heap[w.heap.size]? = some (Obj.cells #[.int .i64 a1] 2 (0, 0)) from HBX.out); have n1_ := Aside0.mk (pw_below_drewN HB.out nd); clear HBX HB; have HBX := n0_; have HB := n1_; clear n0_ n1_) | (go_at_call 98; (refine (slices_CloneP.calls A0 c0 l0 t3 _ ?s1 HC0.out A3'.out).mono ?_; (case s1 => exact (Kd.C_below HR0.out (by repeat (first | exact HB.out | apply pw_below_drewN)))); rintro e w3 ⟨v3, rfl, ho3, hb3⟩; have HLF := Aside0.mk (Kd.R_lower ho3 (show w.heap.size ≤ _ from HB.out.size)); have n0_ := Aside0.mk (blk_bel HBX.out hb3); have n1_ := Aside0.mk (HB.out.trans (hb3.mono HB.out.size)); clear HBX HB hcl; have HBX := n0_; have HB := n1_; clear n0_ n1_ ho3 hb3)) | ((with_reducible refine gate_dst (N := 21) rfl ?_); refine Kd.R_lit k60 _ 60 ?hg (N := 21) ?hd (xs := ([] : List S60)) (inner := []) (ok := fun _ => True) (okp := fun _ => True) ?hr ?hp (fun _ hk => hk) trivial (Below.refl _ _) (Nat.le_refl _) (by simp) ?_; (case hd => rfl); (case hg => rfl); (case hr => first | (go_simp; done) | (go_simp; rfl)); (case hp => exact (Reps.none _ _)); intro v21 w5 ho5 hb5 hg_ hnew_; clear hg_ hnew_; have n2_ := Aside0.mk (Kd.R_mono (Kd.R_elder' HLF.out (Kd.R_base ho5) hb5) (fun k_ h_ => h_.2)); have HOF := Aside0.mk (Kd.R_lower ho5 (show w.heap.size ≤ _ from HB.out.size)); have n0_ := Aside0.mk (blk_bel HBX.out hb5); have n1_ := Aside0.mk (HB.out.trans (hb5.mono HB.out.size)); clear HBX HB HLF; have HBX := n0_; have HB := n1_; have HLF := n2_; clear n0_ n1_ n2_ ho5 hb5))
   clear h
   go_loopg [6, 7, 8, 9, 10] k (fun gg s6 s7 s8 s9 s10 wr => ∃ (left out : List S60) (la : Int), Aside0 (fairL k gg left out la = some t4) ∧ Aside0 (Kd.R k60 60 wr w.heap.size (fun k_ => some k_ ≠ s7.ownBlock) s6 left) ∧ Aside0 (Kd.R k60 60 wr w.heap.size (fun _ => True) s7 out) ∧ Aside0 (wr.heap[w.heap.size]? = some (.cells #[.int .i64 la] 2 (0, 0))) ∧ Aside0 (Below w.heap.size w wr))
   case atStart => exact ⟨t3, [], a1, A4', HLF, HOF, HBX, HB⟩
   case round =>
    clear HLF HOF HBX HB A4' A3'
    obtain ⟨left, out, la, HF, HLF, HOF, HBX, HB⟩ := hrel
    cases gk with
    | zero =>
     exfalso
     have := HF.out
     cases this
    | succ f =>
     have H := HF.out
     clear HF
     rw [fairL] at H
     by_cases h0 : left.length = 0
     ·rw [if_pos h0] at H
      have hl := List.length_eq_zero_iff.1 h0
      subst hl
      clear h0
      injection H with H
      subst H
      obtain ⟨A6, c6, e6⟩ := Kd.R_slice HLF.out
      subst e6
      simp only [List.length_nil]
      go_wp2
      go_ret2
      exact ⟨_, rfl, HOF.out, HB.out⟩
     ·rw [if_neg h0] at H
      obtain ⟨list, hli, H⟩ := Option.bind_eq_some_iff.mp H
      rcases rowP HLF.out with ⟨e6, e7⟩ | ⟨g, cap, cur, e6, hok, hbase, hb, hc1, hc2, hc3, hc4⟩
      ·exfalso; subst e7; simp at h0
      ·subst e6
       have hlt : 0 < left.length := by omega
       by_cases q1 : 0 ≤ top0 (idxN list la) ∧ top0 (idxN list la) < list.length ∧ list.length ≤ 1000000
       case neg => rw [if_neg q1] at H; cases H
       rw [if_pos q1] at H
       obtain ⟨m, hm⟩ : ∃ m : Nat, top0 (idxN list la) = m := ⟨(top0 (idxN list la)).toNat, by omega⟩
       rw [hm, Int.toNat_natCast] at H
       obtain ⟨nx, hnx⟩ : ∃ nx, nx = list.getD m 0 := ⟨_, rfl⟩
       rw [← hnx] at H
       by_cases q2 : 0 ≤ idxR left nx ∧ idxR left nx < left.length ∧ out.length < 8796093022208 ∧ left.length ≤ 1000000
       case neg => rw [if_neg q2] at H; cases H
       rw [if_pos q2] at H
       obtain ⟨ai, hai⟩ : ∃ ai : Nat, idxR left nx = ai := ⟨(idxR left nx).toNat, by omega⟩
       rw [hai, Int.toNat_natCast] at H
       obtain ⟨iN, hiN⟩ : ∃ iN, idxN list la = iN := ⟨_, rfl⟩
       have hmL : m < list.length := by omega
       have hge : left.getD ai z60 = left[ai]! := by rw [List.getD_eq_getElem?_getD, List.getElem?_eq_getElem (by omega), getElem!_pos left ai (by omega)]; rfl
       obtain ⟨pv, hpv⟩ : ∃ pv, left[ai]! = pv := ⟨_, rfl⟩
       rw [hge, hpv] at H
       have PV := Aside0.mk hpv
       have hlm : list.length ≤ 1000000 := q1.2.2
       have haL : ai < left.length := by omega
       have hol : out.length < 8796093022208 := q2.2.2.1
       have hll : left.length ≤ 1000000 := q2.2.2.2
       have hmax : (if iN < 0 then (0 : Int) else iN) = (m : Int) := by rw [← hm, ← hiN]; rfl
       have LNE := Aside0.mk (show ¬ list = [] from fun e => by subst e; simp at hmL)
       have ALI := Aside0.mk hli
       have H' := Aside0.mk H
       have BLK := Aside0.mk hb
       have CC1 := Aside0.mk hc1
       have CC2 := Aside0.mk hc2
       have CC3 := Aside0.mk hc3
       have CC4 := Aside0.mk hc4
       have OKG := Aside0.mk hok
       have CRD := Aside0.mk (Kd.R_reads' HLF.out).2.2
       have IN := Aside0.mk hiN
       have AI := Aside0.mk hai
       have NX := Aside0.mk hnx
       have MX := Aside0.mk hmax
       have ML := Aside0.mk hmL
       have OL := Aside0.mk hol
       clear hpv hge h0 hli H hb hc1 hc2 hc3 hc4 hok hbase q1 q2 hm hnx hai hiN hmax hol
       go_wp2_with (first | (go_at_call 99; refine (impl_rooms.calls k _ _ left list _ ?s1 CC1.out ALI.out).mono ?_; (case s1 => exact CRD.out); rintro e w6 ⟨v6, rfl, ho6, hb6⟩; rcases Go.Proofs.Ytgpiaeklhhacjaa.XS.own_row (enc := Value.int .i64) (h1 := fun _ => rfl) ho6 hb6 with ⟨e9, e10⟩ | ⟨g6, cap6, e9, hg6, hcp6, hm6, hH6, _⟩; (exact absurd e10 LNE.out); subst e9; have HH6 := Aside0.mk hH6; have HB6 := Aside0.mk hb6; have BX6 := Aside0.mk (blk_bel HBX.out hb6); have GS6 := Aside0.mk hg6; clear ho6 hb6 hH6 hg6 hcp6 hm6) | (go_at_call 100; have hcon := Try.slices_IndexFunc (Value.int .i64) (fun n => decide (n > la)) 101 #[.pointer (some ⟨w.heap.size, 0, none⟩)] E1.out g6 0 list.length cap6 list w6 (fun W x hW => lit1 x la w.heap.size W ((blk_cell (blk_bel BX6.out hW) 0).trans rfl)) (Nat.le_refl _) (by omega) (fun j hj => by have := (HH6.out j (by simpa using hj)).1; simpa using this); rw [List.take_length] at hcon; change Calls Try.prog 100 _ w6 (fun e w' => e = .returned (.int .i64 (idxN list la)) ∧ ∃ q, w' = w6.drewN q) at hcon; rw [IN.out] at hcon; refine hcon.mono ?_; rintro e w' ⟨rfl, q7, rfl⟩; clear hcon; have hmx := MX.out; have hcm : w6.cell? ⟨g6, m, none⟩ = some (.int .i64 nx) := (by have := (HH6.out m (by simpa using ML.out)).1; rw [Nat.zero_add] at this; rw [this, NX.out, List.getD_eq_getElem?_getD, List.getElem?_eq_getElem ML.out]; simp [ML.out]); have hx1 : w6.cell? ⟨w.heap.size, 0, none⟩ = some (.int .i64 la) := (blk_cell BX6.out 0).trans rfl; have hx2 := blk_frozen BX6.out 0) | (go_at_call 102; clear hmx hcm hx1 hx2; have BX7 := Aside0.mk (show (w6.setCell ⟨w.heap.size, 0, none⟩ (.int .i64 nx)).heap[w.heap.size]? = some (Obj.cells #[.int .i64 nx] 2 (0, 0)) from blk_set BX6.out 0 (.int .i64 nx)); have R7 := Aside0.mk (Kd.R_drewN (Kd.R_set (Kd.R_below HLF.out HB6.out) BX6.out (by decide) 0 (.int .i64 nx)) q7); have O7 := Aside0.mk (Kd.R_drewN (Kd.R_set (Kd.R_below HOF.out HB6.out) BX6.out (by decide) 0 (.int .i64 nx)) q7); have B7 := Aside0.mk (pw_below_drewN (below_set (j := 0) (v := .int .i64 nx) (HB.out.trans (HB6.out.mono HB.out.size)) (Nat.le_refl _)) q7); refine (indexFuncP (fun p => p.f0 == nx) 103 #[.pointer (some ⟨w.heap.size, 0, none⟩)] g cap left _ ?hp E3.out (by omega) ?hg (cellsP (Kd.R_reads' R7.out).2.2)).mono ?_; (case hp => intro W x hW; refine (lit2 x nx w.heap.size W ((blk_cell (blk_bel (w := (w6.setCell ⟨w.heap.size, 0, none⟩ (.int .i64 nx)).drewN q7) BX7.out hW) 0).trans rfl)).mono ?_; rintro e w' ⟨rfl, hb⟩; exact ⟨rfl, hW.trans (hb.mono hW.size)⟩); (case hg => exact Kd.R_lt R7.out g rfl); rintro e w8 ⟨he, hb8⟩; have he2 : e = .returned (.int .i64 (ai : Int)) := he.trans (by rw [show Lib.idxBy (fun x y => y.f0 == nx) left default = idxR left nx from rfl, AI.out]); clear he; subst he2; have BX8 := Aside0.mk (blk_bel (w := (w6.setCell ⟨w.heap.size, 0, none⟩ (.int .i64 nx)).drewN q7) BX7.out hb8); have R8 := Aside0.mk (Kd.R_below R7.out hb8); have O8 := Aside0.mk (Kd.R_below O7.out hb8); have B8 := Aside0.mk (B7.out.trans (hb8.mono B7.out.size)); clear hb8; obtain ⟨hp0, hp1⟩ := cellsP (Kd.R_reads' R8.out).2.2 ai haL; rw [PV.out] at hp0 hp1) | ((with_reducible refine gate_builtin (b := .append) (xs := #[.tmp 38, .tmp 43]) rfl ?_); at_builtin; (refine Kd.R_append k60 (w0 := w) w.heap.size rfl (.tmp 38) (.tmp 43) 52 60 (.agg #[(.int .i64 0), (.int .i64 0)]) 16 rfl Try.underlying52 info60 rfl (by decide) (by omega) u7 out pv [.int .i64 pv.f0, .int .i64 pv.f1] (fun _ => True) (fun _ => False) rfl (by first | (go_simp; done) | (go_simp; rfl)) (k60_mkM _ _ _ _) (fun _ hk => hk.elim) (fun _ _ => trivial) O8.out B8.out ?aS ?aL ?_; (case aS => exact B8.out.size); (case aL => have := OL.out; omega); intro v9 w9 ho9 hb9 hg9 hat9; have L9 := Aside0.mk (Kd.R_mono (Kd.R_after (Kd.R_mono R8.out (fun k_ hk_ => (⟨trivial, hk_⟩ : True ∧ _))) hg9 hat9) (fun k_ hk_ => hk_.2)); have BX9 := Aside0.mk (blk_grown BX8.out hg9 (Kd.R_ne O8.out BX8.out (by decide))); have O9 := Aside0.mk ho9; have B9 := Aside0.mk hb9; clear ho9 hb9 hg9 hat9 hp0 hp1)) | (go_at_call 104; (have hcon := delete_row ai (ai + 1) (Nat.lt_succ_self _) haL L9.out; rw [show (((ai + 1 : Nat)) : Int) = (ai : Int) + 1 by omega] at hcon; refine hcon.mono ?_; rintro e w10 ⟨v10, rfl, ho10, hob10, hg10⟩; have L10 := Aside0.mk ho10; have O10 := Aside0.mk (Kd.R_mono (Kd.R_grown (Kd.R_tight rfl O9.out) hg10 (fun k_ hk_ he_ => L9.out.1 k_ he_.symm hk_)) (fun _ _ => trivial) : Kd.R k60 60 w10 w.heap.size (fun _ => True) v9 (out ++ [pv])); have BX10 := Aside0.mk (blk_grown BX9.out hg10 (Kd.R_ne L9.out BX9.out (by decide))); have B10 := Aside0.mk (pw_below_grown B9.out _ B9.out.size hg10 (fun k_ hk_ => Kd.R_base L9.out k_ hk_)); clear hcon ho10 hob10 hg10)))
       go_roundg f
       case measure => omega
       case rel => exact ⟨left.take ai ++ left.drop (ai + 1), out ++ [pv], nx, H', L10, O10, BX10, B10⟩

/-! ### impl_RoomsIn: function 55 -/
def impl_RoomsIn.f (k : Nat) (l0 : List (S60)) : Option (List Int × Bool) := (impl_parcelsOk.f k l0).bind fun t148 => (if t148 = true then ((impl_rooms.f k l0).bind fun t149 => (some (t149, true))) else (some (([] : List Int), false)))
theorem impl_RoomsIn.mono : ∀ a0 k, LeO (impl_RoomsIn.f k a0) (impl_RoomsIn.f (k + 1) a0) := by
 intro a0 k
 unfold impl_RoomsIn.f
 repeat' first
   | (with_reducible exact impl_parcelsOk.mono _ _)
   | (with_reducible exact impl_rooms.mono _ _)
   | (with_reducible exact LeO.refl _)
   | (with_reducible exact LeO.none _)
   | (with_reducible refine LeO.ite ?_ ?_)
   | (with_reducible refine LeO.bind ?_ (fun _ => ?_))
   | exact impl_parcelsOk.mono _ _
   | exact impl_rooms.mono _ _
   | exact LeO.none _
   | refine LeO.ite ?_ ?_
   | refine LeO.bind ?_ (fun _ => ?_)
set_option maxHeartbeats 8000000 in
set_option maxRecDepth 100000 in
theorem impl_RoomsIn.calls (k : Nat) (A0 : Option Addr) (c0 : Nat) (l0 : List (S60)) (r1 : List Int) (r2 : Bool) (w : World) (hr0 : Kd.C k60 w A0 l0.length l0) (hc0 : l0.length ≤ c0) (h : impl_RoomsIn.f k l0 = some (r1, r2)) :
  Calls Try.prog 55 #[.slice A0 l0.length c0] w fun e w' => ∃ v0_ : Value, e = .returned (.tuple #[v0_, .bool r2]) ∧ Kd.R (Kd.int .i64) 2 w' w.heap.size (fun _ => True) v0_ r1 ∧ Below w.heap.size w w' := by
 have HR0 := Aside0.mk hr0
 have HC0 := Aside0.mk hc0
 clear hr0 hc0
 have HB := Aside0.mk (Below.refl w.heap.size w)
 have H : ((impl_parcelsOk.f k l0).bind fun t148 => (if t148 = true then ((impl_rooms.f k l0).bind fun t149 => (some (t149, true))) else (some (([] : List Int), false)))) = some (r1, r2) := h
 clear h
 replace H := Option.bind_eq_some_iff.mp H
 obtain ⟨t148, A20, H⟩ := H
 replace H : (if t148 = true then ((impl_rooms.f k l0).bind fun t149 => (some (t149, true))) else (some (([] : List Int), false))) = some (r1, r2) := H
 have A2 := Aside0.mk A20
 clear A20
 by_cases c3 : t148 = true
 ·subst c3
  have H1 : ((impl_rooms.f k l0).bind fun t149 => (some (t149, true))) = some (r1, r2) := by rw [if_pos rfl] at H; exact H
  clear H
  have H := H1
  clear H1
  replace H := Option.bind_eq_some_iff.mp H
  obtain ⟨t149, A40, H⟩ := H
  replace H : (some (t149, true)) = some (r1, r2) := H
  have A4 := Aside0.mk A40
  clear A40
  simp only [Option.some.injEq, Prod.mk.injEq] at H
  obtain ⟨rfl, rfl⟩ := H
  go_enter Try.func55, Try.ntmps55
  go_wp2_with (first | ((with_reducible refine gate_callee (f := 73) rfl ?_); refine goesL_ (some 5) rfl rfl Try.func73 (by kernel_rfl) rfl #[.slice A0 l0.length c0] rfl (by (try simp only [List.map_toArray, List.map_cons, List.map_nil]); first | done | rfl | (simp only [List.length_drop, List.length_take]; rfl)) ?_; (with_reducible refine (impl_parcelsOk.calls k _ _ l0 true _ ?side1 ?side2 A2.out).mono ?_); (case side1 => repeat (first | exact HR0.out | (with_reducible refine Kd.C_alloc ?_ _) | (with_reducible refine Kd.C_drewN ?_ _) | (with_reducible refine Kd.C_drew ?_))); (case side2 => exact HC0.out); rintro e w5 ⟨rfl, hb⟩; refine ⟨_, rfl, ?_⟩; have n0_ := Aside0.mk (below_step (by repeat (first | (with_reducible first | exact HB.out | apply below_alloc | apply pw_below_drewN | apply below_drew1) | exact HB.out)) hb); clear HB; have HB := n0_; clear n0_; (try clear hb); (try clear hb2); (try clear hk); (try clear hi)) | ((with_reducible refine gate_callee (f := 99) rfl ?_); refine goesL_ (some 8) rfl rfl Try.func99 (by kernel_rfl) rfl #[.slice A0 l0.length c0] rfl (by (try simp only [List.map_toArray, List.map_cons, List.map_nil]); first | done | rfl | (simp only [List.length_drop, List.length_take]; rfl)) ?_; (with_reducible refine (impl_rooms.calls k _ _ l0 t149 _ ?side1 ?side2 A4.out).mono ?_); (case side1 => repeat (first | exact (Kd.C_below HR0.out HB.out) | (with_reducible refine Kd.C_alloc ?_ _) | (with_reducible refine Kd.C_drewN ?_ _) | (with_reducible refine Kd.C_drew ?_))); (case side2 => exact HC0.out); rintro e w6 ⟨v150, rfl, ho0, hb⟩; refine ⟨_, rfl, ?_⟩; have n0_ := Aside0.mk (Kd.R_lower ho0 (below_size (by repeat (first | (with_reducible first | exact HB.out | apply below_alloc | apply pw_below_drewN | apply below_drew1) | exact HB.out)))); have n1_ := Aside0.mk (below_step (by repeat (first | (with_reducible first | exact HB.out | apply below_alloc | apply pw_below_drewN | apply below_drew1) | exact HB.out)) hb); clear HB; have HO151 := n0_; have HB := n1_; clear n0_ n1_; (try clear hb); (try clear hb2); (try clear hk); (try clear hi); (try clear ho0)))
  go_ret2
  exact ⟨_, by first | rfl | (simp [errW_none, errW_some] <;> rfl) | (simp [*, errW_none, errW_some] <;> rfl), by (with_reducible repeat (first | apply Kd.R_alloc | apply Kd.R_drewN | apply Kd.R_drew)); exact HO151.out, by repeat (first | (with_reducible first | exact HB.out | apply below_alloc | apply pw_below_drewN | apply below_drew1) | exact HB.out)⟩
 ·replace c3 := Bool.eq_false_iff.mpr c3
  subst c3
  have H1 : (some (([] : List Int), false)) = some (r1, r2) := by rw [if_neg (show ¬ (false = true) by decide)] at H; exact H
  clear H
  have H := H1
  clear H1
  simp only [Option.some.injEq, Prod.mk.injEq] at H
  obtain ⟨rfl, rfl⟩ := H
  go_enter Try.func55, Try.ntmps55
  go_wp2_with (first | ((with_reducible refine gate_callee (f := 73) rfl ?_); refine goesL_ (some 5) rfl rfl Try.func73 (by kernel_rfl) rfl #[.slice A0 l0.length c0] rfl (by (try simp only [List.map_toArray, List.map_cons, List.map_nil]); first | done | rfl | (simp only [List.length_drop, List.length_take]; rfl)) ?_; (with_reducible refine (impl_parcelsOk.calls k _ _ l0 false _ ?side1 ?side2 A2.out).mono ?_); (case side1 => repeat (first | exact HR0.out | (with_reducible refine Kd.C_alloc ?_ _) | (with_reducible refine Kd.C_drewN ?_ _) | (with_reducible refine Kd.C_drew ?_))); (case side2 => exact HC0.out); rintro e w7 ⟨rfl, hb⟩; refine ⟨_, rfl, ?_⟩; have n0_ := Aside0.mk (below_step (by repeat (first | (with_reducible first | exact HB.out | apply below_alloc | apply pw_below_drewN | apply below_drew1) | exact HB.out)) hb); clear HB; have HB := n0_; clear n0_; (try clear hb); (try clear hb2); (try clear hk); (try clear hi)))
  go_ret2
  exact ⟨_, by first | rfl | (simp [errW_none, errW_some] <;> rfl) | (simp [*, errW_none, errW_some] <;> rfl), by first | exact Kd.R_nil _ _ _ _ _ | exact Kd.N_nil _ _ _ _ _ | exact Kd.V_nil _ _ _ _ _ | exact Kd.Q_nil _ _ _ _ _ | exact Kd.S_nil _ _ _ _ _, by repeat (first | (with_reducible first | exact HB.out | apply below_alloc | apply pw_below_drewN | apply below_drew1) | exact HB.out)⟩

/-! ### laws_r8Parcels: function 56 -/
def laws_r8Parcels.l0 : Nat → List (S60) → List (S60) → Int → Option (Bool)
 | 0, _, _, _ => none
 | k + 1, x0, x1, x5 => if x5 < (x0.length : Int) then (if 0 ≤ x5 then (if x5 < (x1.length : Int) then (if (!(((rd_T60 x0 x5).f0) == ((rd_T60 x1 x5).f0)) || (!(((rd_T60 x0 x5).f1) == ((rd_T60 x1 x5).f1)))) = true then (some false) else (laws_r8Parcels.l0 k x0 x1 (wrap64 (x5 + 1)))) else (none)) else (none)) else (some true)
def laws_r8Parcels.f (k : Nat) (l0 : List (S60)) (l1 : List (S60)) : Option (Bool) := if (l0.length : Int) = (l1.length : Int) then (laws_r8Parcels.l0 k l0 l1 0) else (some false)
theorem laws_r8Parcels.mono_l : ∀ k, (∀ y0 y1 y2, LeO (laws_r8Parcels.l0 k y0 y1 y2) (laws_r8Parcels.l0 (k + 1) y0 y1 y2))
 | 0 => fun _ _ _ r h => by simp [laws_r8Parcels.l0] at h
 | k + 1 => by
  have ih0 := laws_r8Parcels.mono_l k
  ·intro y0 y1 y2
   unfold laws_r8Parcels.l0
   repeat' first
   | (with_reducible exact ih0 _ _ _)
   | (with_reducible exact LeO.refl _)
   | (with_reducible exact LeO.none _)
   | (with_reducible refine LeO.ite ?_ ?_)
   | (with_reducible refine LeO.bind ?_ (fun _ => ?_))
   | exact ih0 _ _ _
   | exact LeO.none _
   | refine LeO.ite ?_ ?_
   | refine LeO.bind ?_ (fun _ => ?_)
theorem laws_r8Parcels.mono : ∀ a0 a1 k, LeO (laws_r8Parcels.f k a0 a1) (laws_r8Parcels.f (k + 1) a0 a1) := by
 intro a0 a1 k
 have ih0 := laws_r8Parcels.mono_l k
 unfold laws_r8Parcels.f
 repeat' first
   | (with_reducible exact ih0 _ _ _)
   | (with_reducible exact LeO.refl _)
   | (with_reducible exact LeO.none _)
   | (with_reducible refine LeO.ite ?_ ?_)
   | (with_reducible refine LeO.bind ?_ (fun _ => ?_))
   | exact ih0 _ _ _
   | exact LeO.none _
   | refine LeO.ite ?_ ?_
   | refine LeO.bind ?_ (fun _ => ?_)
set_option maxHeartbeats 8000000 in
set_option maxRecDepth 100000 in
theorem laws_r8Parcels.calls (k : Nat) (A0 : Option Addr) (c0 : Nat) (l0 : List (S60)) (A1 : Option Addr) (c1 : Nat) (l1 : List (S60)) (r : Bool) (w : World) (hr0 : Kd.C k60 w A0 l0.length l0) (hc0 : l0.length ≤ c0) (hr1 : Kd.C k60 w A1 l1.length l1) (hc1 : l1.length ≤ c1) (h : laws_r8Parcels.f k l0 l1 = some r) :
  Calls Try.prog 56 #[.slice A0 l0.length c0, .slice A1 l1.length c1] w fun e w' => e = .returned (.bool r) ∧ Drawn0 w w' := by
 have hu60 := Try.underlying60
 have HR0 := Aside0.mk hr0
 have HC0 := Aside0.mk hc0
 clear hr0 hc0
 have HR1 := Aside0.mk hr1
 have HC1 := Aside0.mk hc1
 clear hr1 hc1
 have H : (if (l0.length : Int) = (l1.length : Int) then (laws_r8Parcels.l0 k l0 l1 0) else (some false)) = some r := h
 clear h
 by_cases c3 : (l0.length : Int) = (l1.length : Int)
 ·rw [if_pos c3] at H
  have c3b0 : ((l0.length : Int) == (l1.length : Int)) = true := beq_iff_eq.mpr c3
  have c3b1 : ((l0.length : Int) != (l1.length : Int)) = false := bne_eq_false_iff_eq.mpr c3
  have c3b2 : (l0.length == l1.length) = true := by first | simpa using c3 | (simp at c3 ⊢; omega)
  clear c3
  have H' := Aside0.mk H
  clear H
  go_enter Try.func56, Try.ntmps56
  go_wp2
  repeat (go_quiet (fail); try go_wp2)
  go_loopg [5] k (fun kq v5 w' => ∃ (x5_1 : Int), v5 = .int .i64 x5_1 ∧ Aside0 (laws_r8Parcels.l0 kq l0 l1 x5_1 = some r) ∧ Aside0 (kq ≤ k) ∧ Drawn0 w w')
  case atStart => exact ⟨(0), (by first | rfl | (simp; done) | (simp [*]; done)), H', ⟨Nat.le_refl _⟩, by repeat (first | exact Drawn0.refl _ | apply Drawn0.step)⟩
  case round =>
   clear H'
   try clear c1
   try clear p2
   try clear c3
   try clear c3b0
   try clear c3b1
   try clear c3b2
   obtain ⟨x5_1, rfl, HA, HK1, ⟨m1, rfl⟩⟩ := hrel
   cases gk with
   | zero => exact absurd HA.out (by simp [laws_r8Parcels.l0])
   | succ k1 =>
    have H := HA.out
    clear HA
    simp only [laws_r8Parcels.l0] at H
    by_cases c4 : x5_1 < (l0.length : Int)
    ·rw [if_pos c4] at H
     have c4b0 : decide (x5_1 < (l0.length : Int)) = true := decide_eq_true c4
     clear c4
     by_cases c5 : 0 ≤ x5_1
     ·rw [if_pos c5] at H
      have c5b0 : decide (0 ≤ x5_1) = true := decide_eq_true c5
      clear c5
      by_cases c6 : x5_1 < (l1.length : Int)
      ·rw [if_pos c6] at H
       have c6b0 : decide (x5_1 < (l1.length : Int)) = true := decide_eq_true c6
       clear c6
       by_cases c7 : (!(((rd_T60 l0 x5_1).f0) == ((rd_T60 l1 x5_1).f0)) || (!(((rd_T60 l0 x5_1).f1) == ((rd_T60 l1 x5_1).f1)))) = true
       ·rw [if_pos c7] at H
        have c7b0 : (!(((rd_T60 l0 x5_1).f0) == ((rd_T60 l1 x5_1).f0)) || (!(((rd_T60 l0 x5_1).f1) == ((rd_T60 l1 x5_1).f1)))) = true := c7
        clear c7
        obtain rfl := Option.some.inj H
        have p152 : 0 ≤ (x5_1 : Int) := of_decide_eq_true (by first | (with_reducible assumption) | assumption)
        have q152 : x5_1 < (l0.length : Int) := of_decide_eq_true (by first | (with_reducible assumption) | assumption)
        obtain ⟨ad152, e152, hx152_0, hx152_1⟩ := at_T60 HR0.out x5_1 p152 q152
        cases e152
        replace p152 := eq_true p152
        replace q152 := eq_true q152
        have p153 : 0 ≤ (x5_1 : Int) := of_decide_eq_true (by first | (with_reducible assumption) | assumption)
        have q153 : x5_1 < (l1.length : Int) := of_decide_eq_true (by first | (with_reducible assumption) | assumption)
        obtain ⟨ad153, e153, hx153_0, hx153_1⟩ := at_T60 HR1.out x5_1 p153 q153
        cases e153
        replace p153 := eq_true p153
        replace q153 := eq_true q153
        go_wp2
        repeat (go_quiet (fail); try go_wp2)
        go_ret
        exact ⟨by first | rfl | (simp; done) | (simp [*]; done), by repeat (first | exact Drawn0.refl _ | apply Drawn0.step)⟩
       ·rw [if_neg c7] at H
        have c7b0 : (!(((rd_T60 l0 x5_1).f0) == ((rd_T60 l1 x5_1).f0)) || (!(((rd_T60 l0 x5_1).f1) == ((rd_T60 l1 x5_1).f1)))) = false := by simpa using c7
        clear c7
        have H' := Aside0.mk H
        clear H
        have p152 : 0 ≤ (x5_1 : Int) := of_decide_eq_true (by first | (with_reducible assumption) | assumption)
        have q152 : x5_1 < (l0.length : Int) := of_decide_eq_true (by first | (with_reducible assumption) | assumption)
        obtain ⟨ad152, e152, hx152_0, hx152_1⟩ := at_T60 HR0.out x5_1 p152 q152
        cases e152
        replace p152 := eq_true p152
        replace q152 := eq_true q152
        have p153 : 0 ≤ (x5_1 : Int) := of_decide_eq_true (by first | (with_reducible assumption) | assumption)
        have q153 : x5_1 < (l1.length : Int) := of_decide_eq_true (by first | (with_reducible assumption) | assumption)
        obtain ⟨ad153, e153, hx153_0, hx153_1⟩ := at_T60 HR1.out x5_1 p153 q153
        cases e153
        replace p153 := eq_true p153
        replace q153 := eq_true q153
        go_wp2
        repeat (go_quiet (fail); try go_wp2)
        go_roundg k1
        case measure => have := HK1.out; omega
        case rel => exact ⟨(wrap64 (x5_1 + 1)), (by first | rfl | (simp; done) | (simp [*]; done)), H', ⟨by have := HK1.out; omega⟩, by repeat (first | exact Drawn0.refl _ | apply Drawn0.step)⟩
      ·rw [if_neg c6] at H
       exact absurd H (by simp)
     ·rw [if_neg c5] at H
      exact absurd H (by simp)
    ·rw [if_neg c4] at H
     have c4b0 : decide (x5_1 < (l0.length : Int)) = false := decide_eq_false c4
     clear c4
     obtain rfl := Option.some.inj H
     go_wp2
     repeat (go_quiet (fail); try go_wp2)
     go_ret
     exact ⟨by first | rfl | (simp; done) | (simp [*]; done), by repeat (first | exact Drawn0.refl _ | apply Drawn0.step)⟩
 ·rw [if_neg c3] at H
  have c3b0 : ((l0.length : Int) == (l1.length : Int)) = false := beq_eq_false_iff_ne.mpr c3
  have c3b1 : ((l0.length : Int) != (l1.length : Int)) = true := bne_iff_ne.mpr c3
  have c3b2 : (l0.length == l1.length) = false := by first | simpa using c3 | (simp at c3 ⊢; omega)
  obtain rfl := Option.some.inj H
  go_enter Try.func56, Try.ntmps56
  go_wp2
  repeat (go_quiet (fail); try go_wp2)
  go_ret
  exact ⟨by first | rfl | (simp; done) | (simp [*]; done), by repeat (first | exact Drawn0.refl _ | apply Drawn0.step)⟩

/-! ### laws_r8OfRoom: function 57 -/
def laws_r8OfRoom.l0 : Nat → List (S60) → Int → List (S60) → Int → Option ((List (S60)))
 | 0, _, _, _, _ => none
 | k + 1, x0, x1, x5, x6 => if x6 < (x0.length : Int) then (if 0 ≤ x6 then (if ((rd_T60 x0 x6).f0) = x1 then (if x5.length < 8796093022208 then (laws_r8OfRoom.l0 k x0 x1 (x5 ++ [(⟨(rd_T60 x0 x6).f0, (rd_T60 x0 x6).f1⟩ : S60)]) (wrap64 (x6 + 1))) else (none)) else (laws_r8OfRoom.l0 k x0 x1 x5 (wrap64 (x6 + 1)))) else (none)) else (some x5)
def laws_r8OfRoom.f (k : Nat) (l0 : List (S60)) (a1 : Int) : Option ((List (S60))) := laws_r8OfRoom.l0 k l0 a1 (([] : List (S60))) 0
theorem laws_r8OfRoom.mono_l : ∀ k, (∀ y0 y1 y2 y3, LeO (laws_r8OfRoom.l0 k y0 y1 y2 y3) (laws_r8OfRoom.l0 (k + 1) y0 y1 y2 y3))
 | 0 => fun _ _ _ _ r h => by simp [laws_r8OfRoom.l0] at h
 | k + 1 => by
  have ih0 := laws_r8OfRoom.mono_l k
  ·intro y0 y1 y2 y3
   unfold laws_r8OfRoom.l0
   repeat' first
   | (with_reducible exact ih0 _ _ _ _)
   | (with_reducible exact LeO.refl _)
   | (with_reducible exact LeO.none _)
   | (with_reducible refine LeO.ite ?_ ?_)
   | (with_reducible refine LeO.bind ?_ (fun _ => ?_))
   | exact ih0 _ _ _ _
   | exact LeO.none _
   | refine LeO.ite ?_ ?_
   | refine LeO.bind ?_ (fun _ => ?_)
theorem laws_r8OfRoom.mono : ∀ a0 a1 k, LeO (laws_r8OfRoom.f k a0 a1) (laws_r8OfRoom.f (k + 1) a0 a1) := by
 intro a0 a1 k
 have ih0 := laws_r8OfRoom.mono_l k
 unfold laws_r8OfRoom.f
 repeat' first
   | (with_reducible exact ih0 _ _ _ _)
   | (with_reducible exact LeO.refl _)
   | (with_reducible exact LeO.none _)
   | (with_reducible refine LeO.ite ?_ ?_)
   | (with_reducible refine LeO.bind ?_ (fun _ => ?_))
   | exact ih0 _ _ _ _
   | exact LeO.none _
   | refine LeO.ite ?_ ?_
   | refine LeO.bind ?_ (fun _ => ?_)
set_option maxHeartbeats 8000000 in
set_option maxRecDepth 100000 in
theorem laws_r8OfRoom.calls (k : Nat) (A0 : Option Addr) (c0 : Nat) (l0 : List (S60)) (a1 : Int) (r : List (S60)) (w : World) (hr0 : Kd.C k60 w A0 l0.length l0) (hc0 : l0.length ≤ c0) (h : laws_r8OfRoom.f k l0 a1 = some r) :
  Calls Try.prog 57 #[.slice A0 l0.length c0, .int .i64 a1] w fun e w' => ∃ v0_ : Value, e = .returned (v0_) ∧ Kd.R k60 60 w' w.heap.size (fun _ => True) v0_ r ∧ Below w.heap.size w w' := by
 have hu60 := Try.underlying60
 have HR0 := Aside0.mk hr0
 have HC0 := Aside0.mk hc0
 clear hr0 hc0
 have HB := Aside0.mk (Below.refl w.heap.size w)
 have H : (laws_r8OfRoom.l0 k l0 a1 (([] : List (S60))) 0) = some r := h
 clear h
 obtain ⟨y154, hy154⟩ : ∃ y_ : List (S60), y_ = (([] : List (S60))) := ⟨_, rfl⟩
 replace H : (laws_r8OfRoom.l0 k l0 a1 y154 0) = some r := by first | (rw [hy154]; with_reducible exact H) | (have H2_ := (Option.bind_some _ _).symm.trans H; rw [hy154]; with_reducible exact H2_) | (have H2_ := (Option.bind_some _ _).symm.trans H; with_reducible exact H2_) | with_reducible exact H | (rw [hy154]; exact H) | exact H
 have Ny154 := Aside0.mk hy154
 clear hy154
 have H' := Aside0.mk H
 clear H
 go_enter Try.func57, Try.ntmps57
 go_wp2_with (first | ((with_reducible refine gate_dst (N := 7) rfl ?_); refine Kd.R_lit k60 _ 60 ?hg (N := 7) ?hd (xs := ([] : List (S60))) (inner := []) (ok := fun _ => True) (okp := fun _ => True) ?hr ?hp (fun _ hk => hk) trivial (Below.refl _ _) (Nat.le_refl _) (by simp) ?_; (case hd => rfl); (case hg => rfl); (case hr => first | (go_simp; done) | (go_simp; rfl)); (case hp => exact (Reps.none _ _)); intro v155 w3 ho4 hb hg_ hnew_; clear hg_ hnew_; (first | rw [← Ny154.out] at ho4 | (simp only [Int.reduceToNat] at ho4; rw [← Ny154.out] at ho4)); have n0_ := Aside0.mk (Kd.R_lower ho4 (below_size (by repeat (first | (with_reducible first | exact HB.out | apply below_alloc | apply pw_below_drewN | apply below_drew1) | exact HB.out)))); have n1_ := Aside0.mk (below_step (by repeat (first | (with_reducible first | exact HB.out | apply below_alloc | apply pw_below_drewN | apply below_drew1) | exact HB.out)) hb); clear HB; have HO156 := n0_; have HB := n1_; clear n0_ n1_; clear hb ho4))
 go_loopg [5, 6] k (fun kq v5 v6 w' => ∃ (x5_1 : List (S60)) (x6_1 : Int), v6 = .int .i64 x6_1 ∧ Aside0 (laws_r8OfRoom.l0 kq l0 a1 x5_1 x6_1 = some r) ∧ Aside0 (kq ≤ k) ∧ Aside0 (Kd.R k60 60 w' w.heap.size (fun _ => True) v5 x5_1) ∧ Aside0 (Below w.heap.size w w'))
 case atStart => exact ⟨(y154), (0), (by first | rfl | (simp; done) | (simp [*]; done)), H', ⟨Nat.le_refl _⟩, ⟨by (with_reducible repeat (first | apply Kd.R_alloc | apply Kd.R_drewN | apply Kd.R_drew)); exact HO156.out⟩, ⟨by repeat (first | (with_reducible first | exact HB.out | apply below_alloc | apply pw_below_drewN | apply below_drew1) | exact HB.out)⟩⟩
 case round =>
  clear H'
  try clear p2
  obtain ⟨x5_1, x6_1, rfl, HA, HK1, HO_5, HB⟩ := hrel
  cases gk with
  | zero => exact absurd HA.out (by simp [laws_r8OfRoom.l0])
  | succ k1 =>
   have H := HA.out
   clear HA
   simp only [laws_r8OfRoom.l0] at H
   by_cases c5 : x6_1 < (l0.length : Int)
   ·rw [if_pos c5] at H
    have c5b0 : decide (x6_1 < (l0.length : Int)) = true := decide_eq_true c5
    clear c5
    by_cases c6 : 0 ≤ x6_1
    ·rw [if_pos c6] at H
     have c6b0 : decide (0 ≤ x6_1) = true := decide_eq_true c6
     clear c6
     by_cases c7 : ((rd_T60 l0 x6_1).f0) = a1
     ·rw [if_pos c7] at H
      have c7b0 : (((rd_T60 l0 x6_1).f0) == a1) = true := beq_iff_eq.mpr c7
      have c7b1 : (((rd_T60 l0 x6_1).f0) != a1) = false := bne_eq_false_iff_eq.mpr c7
      clear c7
      by_cases c8 : x5_1.length < 8796093022208
      ·rw [if_pos c8] at H
       have LMc8 := Aside0.mk c8
       clear c8
       obtain ⟨y159, hy159⟩ : ∃ y_ : List (S60), y_ = (x5_1 ++ [(⟨(rd_T60 l0 x6_1).f0, (rd_T60 l0 x6_1).f1⟩ : S60)]) := ⟨_, rfl⟩
       replace H : (laws_r8OfRoom.l0 k1 l0 a1 y159 (wrap64 (x6_1 + 1))) = some r := by first | (rw [hy159]; with_reducible exact H) | (have H2_ := (Option.bind_some _ _).symm.trans H; rw [hy159]; with_reducible exact H2_) | (have H2_ := (Option.bind_some _ _).symm.trans H; with_reducible exact H2_) | with_reducible exact H | (rw [hy159]; exact H) | exact H
       have Ny159 := Aside0.mk hy159
       clear hy159
       have H' := Aside0.mk H
       clear H
       have p157 : 0 ≤ (x6_1 : Int) := of_decide_eq_true (by first | (with_reducible assumption) | assumption)
       have q157 : x6_1 < (l0.length : Int) := of_decide_eq_true (by first | (with_reducible assumption) | assumption)
       obtain ⟨ad157, e157, hx157_0, hx157_1⟩ := at_T60 HR0.out x6_1 p157 q157
       cases e157
       replace hx157_0 := (HB.out.cell (World.block_lt_of_cell? w _ hx157_0)).trans hx157_0
       replace hx157_1 := (HB.out.cell (World.block_lt_of_cell? w _ hx157_1)).trans hx157_1
       replace p157 := eq_true p157
       replace q157 := eq_true q157
       have p158 : 0 ≤ (x6_1 : Int) := of_decide_eq_true (by first | (with_reducible assumption) | assumption)
       have q158 : x6_1 < (l0.length : Int) := of_decide_eq_true (by first | (with_reducible assumption) | assumption)
       obtain ⟨ad158, e158, hx158_0, hx158_1⟩ := at_T60 HR0.out x6_1 p158 q158
       obtain rfl : ad157 = ad158 := (by injection e158)
       replace hx158_0 := (HB.out.cell (World.block_lt_of_cell? w _ hx158_0)).trans hx158_0
       replace hx158_1 := (HB.out.cell (World.block_lt_of_cell? w _ hx158_1)).trans hx158_1
       replace p158 := eq_true p158
       replace q158 := eq_true q158
       go_wp2_with (first | ((with_reducible refine gate_builtin (b := .append) (xs := #[.tmp 21, .tmp 26]) rfl ?_); at_builtin; refine Kd.R_append k60 (w0 := w) w.heap.size rfl (.tmp 21) (.tmp 26) 52 60 (.agg #[(.int .i64 0), (.int .i64 0)]) 16 rfl Try.underlying52 info60 rfl (by decide) (by omega) u5 x5_1 (⟨(rd_T60 l0 x6_1).f0, (rd_T60 l0 x6_1).f1⟩ : S60) [.int .i64 ((rd_T60 l0 x6_1).f0), .int .i64 ((rd_T60 l0 x6_1).f1)] (fun _ => True) (fun _ => False) rfl rfl ?aP (fun _ hk => hk.elim) ?aF ?aO ?aB ?aS ?aL ?_; (case aP => exact k60_mkM _ _ _ (⟨(rd_T60 l0 x6_1).f0, (rd_T60 l0 x6_1).f1⟩ : S60)); (case aB => exact (by repeat (first | (with_reducible first | exact HB.out | apply below_alloc | apply pw_below_drewN | apply below_drew1) | exact HB.out))); (case aF => exact (fun _ _ => trivial)); (case aO => exact (by (with_reducible repeat (first | apply Kd.R_alloc | apply Kd.R_drewN | apply Kd.R_drew)); exact HO_5.out)); (case aS => exact (below_size (by repeat (first | (with_reducible first | exact HB.out | apply below_alloc | apply pw_below_drewN | apply below_drew1) | exact HB.out)))); (case aL => have := LMc8.out; omega); intro v160 w9 ho hb hg hat; rw [← Ny159.out] at ho; have n0_ := Aside0.mk (hb); have n1_ := Aside0.mk (ho); clear HB; clear HO_5; have HB := n0_; have HO161 := n1_; clear n0_ n1_; clear ho hb hg hat))
       go_roundg k1
       case measure => have := HK1.out; omega
       case rel => exact ⟨(y159), (wrap64 (x6_1 + 1)), (by first | rfl | (simp; done) | (simp [*]; done)), H', ⟨by have := HK1.out; omega⟩, ⟨by (with_reducible repeat (first | apply Kd.R_alloc | apply Kd.R_drewN | apply Kd.R_drew)); exact HO161.out⟩, ⟨by repeat (first | (with_reducible first | exact HB.out | apply below_alloc | apply pw_below_drewN | apply below_drew1) | exact HB.out)⟩⟩
      ·rw [if_neg c8] at H
       exact absurd H (by simp)
     ·rw [if_neg c7] at H
      have c7b0 : (((rd_T60 l0 x6_1).f0) == a1) = false := beq_eq_false_iff_ne.mpr c7
      have c7b1 : (((rd_T60 l0 x6_1).f0) != a1) = true := bne_iff_ne.mpr c7
      have H' := Aside0.mk H
      clear H
      have p157 : 0 ≤ (x6_1 : Int) := of_decide_eq_true (by first | (with_reducible assumption) | assumption)
      have q157 : x6_1 < (l0.length : Int) := of_decide_eq_true (by first | (with_reducible assumption) | assumption)
      obtain ⟨ad157, e157, hx157_0, hx157_1⟩ := at_T60 HR0.out x6_1 p157 q157
      cases e157
      replace hx157_0 := (HB.out.cell (World.block_lt_of_cell? w _ hx157_0)).trans hx157_0
      replace hx157_1 := (HB.out.cell (World.block_lt_of_cell? w _ hx157_1)).trans hx157_1
      replace p157 := eq_true p157
      replace q157 := eq_true q157
      go_wp2
      go_roundg k1
      case measure => have := HK1.out; omega
      case rel => exact ⟨(x5_1), (wrap64 (x6_1 + 1)), (by first | rfl | (simp; done) | (simp [*]; done)), H', ⟨by have := HK1.out; omega⟩, ⟨by (with_reducible repeat (first | apply Kd.R_alloc | apply Kd.R_drewN | apply Kd.R_drew)); exact HO_5.out⟩, ⟨by repeat (first | (with_reducible first | exact HB.out | apply below_alloc | apply pw_below_drewN | apply below_drew1) | exact HB.out)⟩⟩
    ·rw [if_neg c6] at H
     exact absurd H (by simp)
   ·rw [if_neg c5] at H
    have c5b0 : decide (x6_1 < (l0.length : Int)) = false := decide_eq_false c5
    clear c5
    obtain rfl := Option.some.inj H
    go_wp2
    go_ret
    exact ⟨_, by first | rfl | (simp [errW_none, errW_some] <;> rfl) | (simp [*, errW_none, errW_some] <;> rfl), by (with_reducible repeat (first | apply Kd.R_alloc | apply Kd.R_drewN | apply Kd.R_drew)); exact HO_5.out, by repeat (first | (with_reducible first | exact HB.out | apply below_alloc | apply pw_below_drewN | apply below_drew1) | exact HB.out)⟩

end Go.Proofs.Ytgpiaeklhhacjaa.XFnFair
