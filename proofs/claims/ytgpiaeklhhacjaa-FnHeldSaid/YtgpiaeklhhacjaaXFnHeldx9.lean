-- Written by a program of this session (wip/xprint: over the kit's print). Not trusted: Lean checks it.
import Derived.Test.YtgpiaeklhhacjaaXFnHeldx0
import Derived.Test.YtgpiaeklhhacjaaXFnHeldx4
import Derived.Test.YtgpiaeklhhacjaaXFnHeldx7
import Derived.Test.YtgpiaeklhhacjaaXFnHeldx8
namespace Go.Proofs.Ytgpiaeklhhacjaa.XFnHeld
open Go.RowKit Go.Proofs.YtgpiaeklhhacjaaW.PrintWords Go.Proofs.YtgpiaeklhhacjaaW.PrintLast Go.Proofs.YtgpiaeklhhacjaaW.PrintMore
open Go.Proofs.Ytgpiaeklhhacjaa.XW
attribute [local go_sem] max2_int min2_int max_two min_two max_three min_three max_four min_four   -- for this text's walks alone
set_option linter.unusedVariables false
set_option linter.unusedSimpArgs false

/-! ### spec_R8Post: function 37 (by hand; numbers of the seat jaa) -/
theorem emptyS {W : World} {base g : Nat} (ok : Nat → Prop) (hok : ok g) (hb : base ≤ g) (hblk : W.heap[g]? = some (.cells #[] 58 (0, 0))) : Kd.S k58 58 W base ok (.slice (some ⟨g, 0, none⟩) 0 0) [] :=
 ⟨fun _ => 0, fun k hk => (show g = k from by simpa [Value.ownBlock] using hk) ▸ hok, [], ⟨rfl, .inr ⟨g, 0, #[], rfl, hb, hblk, Nat.le_refl _, by decide, rfl, rfl⟩⟩, ⟨rfl, fun j p hj => by cases hj⟩⟩
theorem emptyR {W : World} {base g : Nat} (ok : Nat → Prop) (hok : ok g) (hb : base ≤ g) (hblk : W.heap[g]? = some (.cells #[] 60 (0, 0))) : Kd.R k60 60 W base ok (.slice (some ⟨g, 0, none⟩) 0 0) [] :=
 ⟨fun k hk => (show g = k from by simpa [Value.ownBlock] using hk) ▸ hok, [], ⟨rfl, .inr ⟨g, 0, #[], rfl, hb, hblk, Nat.le_refl _, by decide, rfl, rfl⟩⟩, ⟨rfl, fun j p hj => by cases hj⟩⟩
set_option maxHeartbeats 8000000 in
set_option maxRecDepth 100000 in
/-- l04Give gives what it got, itself. -/
theorem giveS (k : Nat) (a0 : Int) (A0 : Option Addr) (c0 : Nat) (l0 : List S58) (t : Bool) (w : World) (hr0 : Kd.C k58 w A0 l0.length l0) (hc0 : l0.length ≤ c0) (h : spec_l04Is.f k a0 l0 = some t) :
  Calls Try.prog 90 #[.agg #[.int .i64 a0, .slice A0 l0.length c0]] w fun e w' => e = .returned (.tuple #[if t = true then .agg #[.int .i64 a0, .slice A0 l0.length c0] else .agg #[.int .i64 0, .slice none 0 0], .bool t]) ∧ Below w.heap.size w w' := by
 have HR0 := Aside0.mk hr0
 have HC0 := Aside0.mk hc0
 have IS := Aside0.mk h
 have z1 : (w.alloc (.cells #[.int .i64 a0, .slice A0 l0.length c0] 29)).heap.size = w.heap.size + 1 := by simp
 have b2 := Aside0.mk (blk_alloc (heap_alloc_new w (.cells #[.int .i64 a0, .slice A0 l0.length c0] 29)) (.cells #[.int .i64 0, .slice none 0 0] 29))
 have b40 := heap_alloc_new (w.alloc (.cells #[.int .i64 a0, .slice A0 l0.length c0] 29)) (.cells #[.int .i64 0, .slice none 0 0] 29)
 rw [z1] at b40
 have b4 := Aside0.mk b40
 have HB := Aside0.mk (below_alloc (below_alloc (Below.refl w.heap.size w) (.cells #[.int .i64 a0, .slice A0 l0.length c0] 29)) (.cells #[.int .i64 0, .slice none 0 0] 29))
 have RPa := Aside0.mk (show RP ((w.alloc (.cells #[.int .i64 a0, .slice A0 l0.length c0] 29)).alloc (.cells #[.int .i64 0, .slice none 0 0] 29)) ⟨w.heap.size, 0, none⟩ [.int .i64 a0, .slice A0 l0.length c0] from RP.of_block b2.out)
 clear hr0 hc0 h z1 b40
 cases t with
 | false =>
  have st0 : True := trivial
  go_enter Try.func90, Try.ntmps90
  go_wp2_with (go_at_call 69; have _g := st0; clear _g st0; refine (spec_l04Is.calls k ⟨w.heap.size, 0, none⟩ a0 A0 c0 l0 false _ RPa.out ?s69 HC0.out IS.out).mono ?_; (case s69 => repeat (first | exact HR0.out | (with_reducible refine Kd.C_alloc ?_ _))); rintro e w1 ⟨rfl, hb1⟩; have HB1 := Aside0.mk hb1; have b41 := Aside0.mk (blk_bel b4.out hb1); have b21 := Aside0.mk (blk_bel b2.out hb1); clear hb1; have hz0 : w1.cell? ⟨w.heap.size + 1, 0, none⟩ = some (.int .i64 0) := (blk_cell b41.out 0).trans rfl; have hz1 : w1.cell? ⟨w.heap.size + 1, 1, none⟩ = some (.slice none 0 0) := (blk_cell b41.out 1).trans rfl; have hf0 := blk_frozen b41.out 0; have hf1 := blk_frozen b41.out 1)
  refine bodyPost_ret (results_ct rfl _ _ (w.heap.size + 1) 29 #[.int .i64 0, .slice none 0 0] (0, 0) _ rfl (by refine blk_put (cs := #[.int .i64 0, .slice none 0 0]) ?_ 1 _ rfl; refine blk_put (cs := #[.int .i64 0, .slice none 0 0]) ?_ 0 _ rfl; exact b41.out) Try.underlying29 rfl (by kernel_rfl)) rfl ?_
  exact ⟨rfl, below_set (below_set (HB.out.trans (HB1.out.mono HB.out.size)) (by omega)) (by omega)⟩
 | true =>
  have st0 : True := trivial
  go_enter Try.func90, Try.ntmps90
  go_wp2_with (go_at_call 69; have _g := st0; clear _g st0; refine (spec_l04Is.calls k ⟨w.heap.size, 0, none⟩ a0 A0 c0 l0 true _ RPa.out ?s69 HC0.out IS.out).mono ?_; (case s69 => repeat (first | exact HR0.out | (with_reducible refine Kd.C_alloc ?_ _))); rintro e w1 ⟨rfl, hb1⟩; have HB1 := Aside0.mk hb1; have b41 := Aside0.mk (blk_bel b4.out hb1); have b21 := Aside0.mk (blk_bel b2.out hb1); clear hb1; have hz0 : w1.cell? ⟨w.heap.size + 1, 0, none⟩ = some (.int .i64 0) := (blk_cell b41.out 0).trans rfl; have hz1 : w1.cell? ⟨w.heap.size + 1, 1, none⟩ = some (.slice none 0 0) := (blk_cell b41.out 1).trans rfl; have hf0 := blk_frozen b41.out 0; have hf1 := blk_frozen b41.out 1; have hk0 : w1.cell? ⟨w.heap.size, 0, none⟩ = some (.int .i64 a0) := (blk_cell b21.out 0).trans rfl; have hk1 : w1.cell? ⟨w.heap.size, 1, none⟩ = some (.slice A0 l0.length c0) := (blk_cell b21.out 1).trans rfl)
  refine bodyPost_ret (results_ct rfl _ _ (w.heap.size + 1) 29 #[.int .i64 a0, .slice A0 l0.length c0] (0, 0) _ rfl (by refine blk_put (cs := #[.int .i64 a0, .slice none 0 0]) ?_ 1 _ rfl; refine blk_put (cs := #[.int .i64 0, .slice none 0 0]) ?_ 0 _ rfl; exact b41.out) Try.underlying29 rfl (by kernel_rfl)) rfl ?_
  exact ⟨rfl, below_set (below_set (HB.out.trans (HB1.out.mono HB.out.size)) (by omega)) (by omega)⟩
def gtB (a b : ByteArray) : Bool := !(Op.bytesLess a.toList b.toList || a.toList == b.toList)
theorem run_gtr (P : Program) (a b : ByteArray) (w : World) : (binOp .gtr 9 (.string a) (.string b)).run P w = .ok (.bool (gtB a b)) w := rfl
/-- A box is put in ahead of the first one with a greater token. -/
def insStep (tok : ByteArray) (mem : Int) (s : Bool × List S58) (x : S58) : Bool × List S58 := if s.1 = false ∧ gtB x.f0 tok = true then (true, s.2 ++ [(⟨tok, mem, 0, []⟩ : S58)] ++ [x]) else (s.1, s.2 ++ [x])
def insJ (tok : ByteArray) (mem : Int) (bs : List S58) (i : Nat) : Bool × List S58 := (bs.take i).foldl (insStep tok mem) (false, [])
theorem insJ_succ (tok : ByteArray) (mem : Int) (bs : List S58) (i : Nat) (hi : i < bs.length) : insJ tok mem bs (i + 1) = insStep tok mem (insJ tok mem bs i) bs[i] := by
 unfold insJ
 rw [List.take_succ_eq_append_getElem hi, List.foldl_append]
 rfl
theorem insJ_len (tok : ByteArray) (mem : Int) (bs : List S58) (i : Nat) : (insJ tok mem bs i).2.length ≤ 2 * bs.length := by
 have : ∀ (l : List S58) (s : Bool × List S58), (l.foldl (insStep tok mem) s).2.length ≤ s.2.length + 2 * l.length := by
  intro l
  induction l with
  | nil => exact fun s => Nat.le_refl _
  | cons x l ih =>
   intro s
   refine Nat.le_trans (ih _) ?_
   have : (insStep tok mem s x).2.length ≤ s.2.length + 2 := by
    unfold insStep
    split <;> simp
   simp only [List.length_cons]
   omega
 refine Nat.le_trans (this (bs.take i) (false, [])) ?_
 rw [List.length_take, List.length_nil]
 omega
def insB (tok : ByteArray) (mem : Int) (bs : List S58) : List S58 := if (insJ tok mem bs bs.length).1 = true then (insJ tok mem bs bs.length).2 else (insJ tok mem bs bs.length).2 ++ [(⟨tok, mem, 0, []⟩ : S58)]
def addF (k : Nat) (a0 : Int) (l0 : List S58) (tok : ByteArray) (mem : Int) : Option (Int × List S58 × Bool) :=
 (spec_l04Is.f k a0 l0).bind fun t1 => if t1 = true then ((spec_l04Find.f k a0 l0 tok).bind fun t2 => if 0 ≤ t2 then some (0, [], false) else ((spec_l04Copy.f k a0 l0).bind fun t3 => if t3.2.length ≤ 1000 then ((spec_l04Is.f k a0 (insB tok mem t3.2)).bind fun t4 => if t4 = true then some (a0, insB tok mem t3.2, true) else some (0, [], false)) else none)) else some (0, [], false)
set_option maxHeartbeats 16000000 in
set_option maxRecDepth 100000 in
theorem addS (k : Nat) (a0 : Int) (A0 : Option Addr) (c0 : Nat) (l0 : List S58) (tok : ByteArray) (mem : Int) (r1 : Int) (r2 : List S58) (r3 : Bool) (w : World) (hr0 : Kd.C k58 w A0 l0.length l0) (hc0 : l0.length ≤ c0) (h : addF k a0 l0 tok mem = some (r1, r2, r3)) :
  Calls Try.prog 80 #[.agg #[.int .i64 a0, .slice A0 l0.length c0], .string tok, .int .i64 mem] w fun e w' => ∃ v1_ : Value, e = .returned (.tuple #[.agg #[.int .i64 r1, v1_], .bool r3]) ∧ Kd.S k58 58 w' w.heap.size (fun _ => True) v1_ r2 ∧ Below w.heap.size w w' := by
 unfold addF at h
 obtain ⟨t1, h1, h⟩ := Option.bind_eq_some_iff.mp h
 have HR0 := Aside0.mk hr0
 have HC0 := Aside0.mk hc0
 have IS := Aside0.mk h1
 have z1 : (w.alloc (.cells #[.int .i64 a0, .slice A0 l0.length c0] 29)).heap.size = w.heap.size + 1 := by simp
 have b2 := Aside0.mk (blk_alloc (heap_alloc_new w (.cells #[.int .i64 a0, .slice A0 l0.length c0] 29)) (.cells #[.int .i64 0, .slice none 0 0] 29))
 have b40 := heap_alloc_new (w.alloc (.cells #[.int .i64 a0, .slice A0 l0.length c0] 29)) (.cells #[.int .i64 0, .slice none 0 0] 29)
 rw [z1] at b40
 have b4 := Aside0.mk b40
 have HB := Aside0.mk (below_alloc (below_alloc (Below.refl w.heap.size w) (.cells #[.int .i64 a0, .slice A0 l0.length c0] 29)) (.cells #[.int .i64 0, .slice none 0 0] 29))
 have RPa := Aside0.mk (show RP ((w.alloc (.cells #[.int .i64 a0, .slice A0 l0.length c0] 29)).alloc (.cells #[.int .i64 0, .slice none 0 0] 29)) ⟨w.heap.size, 0, none⟩ [.int .i64 a0, .slice A0 l0.length c0] from RP.of_block b2.out)
 clear hr0 hc0 h1 z1 b40
 cases t1 with
 | false =>
  rw [if_neg (by simp)] at h
  injection h with h
  simp only [Prod.mk.injEq] at h
  obtain ⟨rfl, rfl, rfl⟩ := h
  have st0 : True := trivial
  go_enter Try.func80, Try.ntmps80
  go_wp2_with (go_at_call 69; have _g := st0; clear _g st0; refine (spec_l04Is.calls k ⟨w.heap.size, 0, none⟩ a0 A0 c0 l0 false _ RPa.out ?s69 HC0.out IS.out).mono ?_; (case s69 => repeat (first | exact HR0.out | (with_reducible refine Kd.C_alloc ?_ _))); rintro e w1 ⟨rfl, hb1⟩; have HB1 := Aside0.mk hb1; have b41 := Aside0.mk (blk_bel b4.out hb1); have b21 := Aside0.mk (blk_bel b2.out hb1); clear hb1; have hz0 : w1.cell? ⟨w.heap.size + 1, 0, none⟩ = some (.int .i64 0) := (blk_cell b41.out 0).trans rfl; have hz1 : w1.cell? ⟨w.heap.size + 1, 1, none⟩ = some (.slice none 0 0) := (blk_cell b41.out 1).trans rfl; have hf0 := blk_frozen b41.out 0; have hf1 := blk_frozen b41.out 1)
  refine bodyPost_ret (results_ct rfl _ _ (w.heap.size + 1) 29 #[.int .i64 0, .slice none 0 0] (0, 0) _ rfl (by refine blk_put (cs := #[.int .i64 0, .slice none 0 0]) ?_ 1 _ rfl; refine blk_put (cs := #[.int .i64 0, .slice none 0 0]) ?_ 0 _ rfl; exact b41.out) Try.underlying29 rfl (by kernel_rfl)) rfl ?_
  exact ⟨_, rfl, Kd.S_nil _ _ _ _ _, below_set (below_set (HB.out.trans (HB1.out.mono HB.out.size)) (by omega)) (by omega)⟩
 | true =>
  rw [if_pos rfl] at h
  obtain ⟨t2, h2, h⟩ := Option.bind_eq_some_iff.mp h
  have FD := Aside0.mk h2
  clear h2
  by_cases hge : 0 ≤ t2
  ·rw [if_pos hge] at h
   injection h with h
   simp only [Prod.mk.injEq] at h
   obtain ⟨rfl, rfl, rfl⟩ := h
   have st0 : True := trivial
   go_enter Try.func80, Try.ntmps80
   go_wp2_with (first | (go_at_call 69; have _g := st0; clear _g st0; refine (spec_l04Is.calls k ⟨w.heap.size, 0, none⟩ a0 A0 c0 l0 true _ RPa.out ?s69 HC0.out IS.out).mono ?_; (case s69 => repeat (first | exact HR0.out | (with_reducible refine Kd.C_alloc ?_ _))); rintro e w1 ⟨rfl, hb1⟩; have HB1 := Aside0.mk hb1; have b41 := Aside0.mk (blk_bel b4.out hb1); have b21 := Aside0.mk (blk_bel b2.out hb1); clear hb1) | (go_at_call 113; refine (spec_l04Find.calls k ⟨w.heap.size, 0, none⟩ a0 A0 c0 l0 tok t2 w1 (RP.of_block b21.out) (Kd.C_below ?s113 HB1.out) HC0.out FD.out).mono ?_; (case s113 => repeat (first | exact HR0.out | (with_reducible refine Kd.C_alloc ?_ _))); rintro e w2 ⟨rfl, hb2⟩; have HB2 := Aside0.mk (HB1.out.trans (hb2.below.mono HB1.out.size)); have b42 := Aside0.mk (blk_bel b41.out hb2.below); have b22 := Aside0.mk (blk_bel b21.out hb2.below); clear hb2; have hz0 : w2.cell? ⟨w.heap.size + 1, 0, none⟩ = some (.int .i64 0) := (blk_cell b42.out 0).trans rfl; have hz1 : w2.cell? ⟨w.heap.size + 1, 1, none⟩ = some (.slice none 0 0) := (blk_cell b42.out 1).trans rfl; have hf0 := blk_frozen b42.out 0; have hf1 := blk_frozen b42.out 1))
   refine bodyPost_ret (results_ct rfl _ _ (w.heap.size + 1) 29 #[.int .i64 0, .slice none 0 0] (0, 0) _ rfl (by refine blk_put (cs := #[.int .i64 0, .slice none 0 0]) ?_ 1 _ rfl; refine blk_put (cs := #[.int .i64 0, .slice none 0 0]) ?_ 0 _ rfl; exact b42.out) Try.underlying29 rfl (by kernel_rfl)) rfl ?_
   exact ⟨_, rfl, Kd.S_nil _ _ _ _ _, below_set (below_set (HB.out.trans (HB2.out.mono HB.out.size)) (by omega)) (by omega)⟩
  ·rw [if_neg hge] at h
   obtain ⟨⟨lim, bs⟩, h3, h⟩ := Option.bind_eq_some_iff.mp h
   by_cases hln : bs.length ≤ 1000
   case neg => rw [if_neg hln] at h; cases h
   rw [if_pos hln] at h
   have CPY := Aside0.mk h3
   have HH := Aside0.mk h
   clear h h3
   have hge0 : (0 ≤ t2) = False := eq_false hge
   have z0 : ((w.alloc (.cells #[.int .i64 a0, .slice A0 l0.length c0] 29)).alloc (.cells #[.int .i64 0, .slice none 0 0] 29)).heap.size = w.heap.size + 2 := by simp
   have st0 : True := trivial
   go_enter Try.func80, Try.ntmps80
   go_wp2_with (first | (go_at_call 69; have _g := st0; clear _g st0; refine (spec_l04Is.calls k ⟨w.heap.size, 0, none⟩ a0 A0 c0 l0 true _ RPa.out ?s69 HC0.out IS.out).mono ?_; (case s69 => repeat (first | exact HR0.out | (with_reducible refine Kd.C_alloc ?_ _))); rintro e w1 ⟨rfl, hb1⟩; have HB1 := Aside0.mk hb1; have b41 := Aside0.mk (blk_bel b4.out hb1); have b21 := Aside0.mk (blk_bel b2.out hb1); clear hb1) | (go_at_call 113; refine (spec_l04Find.calls k ⟨w.heap.size, 0, none⟩ a0 A0 c0 l0 tok t2 w1 (RP.of_block b21.out) (Kd.C_below ?s113 HB1.out) HC0.out FD.out).mono ?_; (case s113 => repeat (first | exact HR0.out | (with_reducible refine Kd.C_alloc ?_ _))); rintro e w2 ⟨rfl, hb2⟩; have HB2 := Aside0.mk (HB1.out.trans (hb2.below.mono HB1.out.size)); have b42 := Aside0.mk (blk_bel b41.out hb2.below); have b22 := Aside0.mk (blk_bel b21.out hb2.below); clear hb2) | (go_at_call 85; refine (spec_l04Copy.calls k ⟨w.heap.size, 0, none⟩ a0 A0 c0 l0 lim bs w2 (RP.of_block b22.out) ?s85 HC0.out CPY.out).mono ?_; (case s85 => exact Kd.C_below (by repeat (first | exact HR0.out | (with_reducible refine Kd.C_alloc ?_ _))) HB2.out); rintro e w3 ⟨v3, rfl, hs3, hb3⟩; obtain ⟨Ao, co, ev⟩ := Kd.S_slice hs3; subst ev; have HB3 := Aside0.mk (HB2.out.trans (hb3.mono HB2.out.size)); have S3 := Aside0.mk (Kd.S_lower hs3 HB2.out.size); have b23 := Aside0.mk (blk_alloc (blk_bel b22.out hb3) (.cells #[.int .i64 lim, .slice Ao bs.length co] 29)); clear hs3 hb3; have hp0 : (w3.alloc (.cells #[.int .i64 lim, .slice Ao bs.length co] 29)).cell? ⟨w.heap.size, 0, none⟩ = some (.int .i64 a0) := (blk_cell b23.out 0).trans rfl))
   obtain ⟨W0, hW0⟩ : ∃ W0, W0 = ((w.alloc (.cells #[.int .i64 a0, .slice A0 l0.length c0] 29)).alloc (.cells #[.int .i64 0, .slice none 0 0] 29)) := ⟨_, rfl⟩
   rw [← hW0] at HB HB3 S3 z0 b4
   clear hW0 b23 hp0 b41 b42 b21 b22 HB1 HB2 RPa b2 HR0 HC0 IS FD CPY
   obtain ⟨f, hf⟩ := S3.out
   have TR := Aside0.mk hf
   clear hf
   have kO : Aside0 ((((w3.alloc (.cells #[.int .i64 lim, .slice Ao bs.length co] 29)).alloc (.cells #[] 58)).alloc (.cells #[.int .i64 a0, .slice (some ⟨w3.heap.size + 1, 0, none⟩) 0 0] 29)).heap[w3.heap.size]? = some (.cells #[.int .i64 lim, .slice Ao bs.length co] 29 (0, 0))) := ⟨blk_alloc (blk_alloc (heap_alloc_new w3 _) _) _⟩
   have z31 : (w3.alloc (.cells #[.int .i64 lim, .slice Ao bs.length co] 29)).heap.size = w3.heap.size + 1 := by simp
   have z32 : ((w3.alloc (.cells #[.int .i64 lim, .slice Ao bs.length co] 29)).alloc (.cells #[] 58)).heap.size = w3.heap.size + 1 + 1 := by simp
   have kE := blk_alloc (heap_alloc_new (w3.alloc (.cells #[.int .i64 lim, .slice Ao bs.length co] 29)) (.cells #[] 58)) (.cells #[.int .i64 a0, .slice (some ⟨w3.heap.size + 1, 0, none⟩) 0 0] 29)
   have kU0 := heap_alloc_new ((w3.alloc (.cells #[.int .i64 lim, .slice Ao bs.length co] 29)).alloc (.cells #[] 58)) (.cells #[.int .i64 a0, .slice (some ⟨w3.heap.size + 1, 0, none⟩) 0 0] 29)
   rw [z31] at kE
   rw [z32] at kU0
   have kU := Aside0.mk kU0
   have BL3 : Aside0 (Below w3.heap.size w3 (((w3.alloc (.cells #[.int .i64 lim, .slice Ao bs.length co] 29)).alloc (.cells #[] 58)).alloc (.cells #[.int .i64 a0, .slice (some ⟨w3.heap.size + 1, 0, none⟩) 0 0] 29))) := ⟨below_alloc (below_alloc (below_alloc (Below.refl _ _) _) _) _⟩
   have S0 : Aside0 (Kd.S k58 58 (((w3.alloc (.cells #[.int .i64 lim, .slice Ao bs.length co] 29)).alloc (.cells #[] 58)).alloc (.cells #[.int .i64 a0, .slice (some ⟨w3.heap.size + 1, 0, none⟩) 0 0] 29)) W0.heap.size (fun k => w3.heap.size ≤ k ∨ f k < 0) (.slice (some ⟨w3.heap.size + 1, 0, none⟩) 0 0) (insJ tok mem bs 0).2) := ⟨emptyS _ (.inl (by omega)) (by have := HB3.out.size; omega) kE⟩
   obtain ⟨W3, hW3⟩ : ∃ W3, W3 = ((w3.alloc (.cells #[.int .i64 lim, .slice Ao bs.length co] 29)).alloc (.cells #[] 58)).alloc (.cells #[.int .i64 a0, .slice (some ⟨w3.heap.size + 1, 0, none⟩) 0 0] 29) := ⟨_, rfl⟩
   rw [← hW3] at kO kU BL3 S0 ⊢
   clear hW3 kE kU0 z31 z32
   go_loopg [10, 11] bs.length (fun gg s10 s11 wr => ∃ (i : Nat) (v : Value), i ≤ bs.length ∧ bs.length - i ≤ gg ∧ s10 = .bool (insJ tok mem bs i).1 ∧ s11 = .int .i64 i ∧ Aside0 (Below w3.heap.size w3 wr) ∧ Aside0 (wr.heap[w3.heap.size]? = some (.cells #[.int .i64 lim, .slice Ao bs.length co] 29 (0, 0))) ∧ Aside0 (wr.heap[w3.heap.size + 1 + 1]? = some (.cells #[.int .i64 a0, v] 29 (0, 0))) ∧ Aside0 (Kd.S k58 58 wr W0.heap.size (fun k => w3.heap.size ≤ k ∨ f k < i) v (insJ tok mem bs i).2) ∧ Aside0 (∀ k, v.ownBlock = some k → w3.heap.size ≤ k))
   case atStart => exact ⟨0, _, Nat.zero_le _, by omega, rfl, rfl, BL3, kO, kU, S0, ⟨fun k hk => by simp [Value.ownBlock] at hk; omega⟩⟩
   case round =>
    clear BL3 kO kU S0
    obtain ⟨i, v, hi, hgg, rfl, rfl, HL, KO, KU, HS, HV⟩ := hrel
    have hx8 : wr.cell? ⟨w3.heap.size, 1, none⟩ = some (.slice Ao bs.length co) := (blk_cell KO.out 1).trans rfl
    have hlen := insJ_len tok mem bs i
    obtain ⟨Au, cu, eu⟩ := Kd.S_slice HS.out
    subst eu
    by_cases hlt : i < bs.length
    ·have hltz : (i : Int) < (bs.length : Int) := by omega
     obtain ⟨go, capo, eo, hgo, hgo2, cellso, hco⟩ := Kd.S_form S3.out (by omega)
     injection eo with eA _ eC
     subst eA
     subst eC
     obtain ⟨cE, hcl, hM, hcc⟩ := Kd.R_getA TR.out (z58, 0) (i : Int) (by omega) hltz
     have hzi : bs.zipIdx.getD i (z58, 0) = (bs[i], i) := by
      rw [List.getD_eq_getElem?_getD, List.getElem?_zipIdx, List.getElem?_eq_getElem hlt, Nat.zero_add]; rfl
     rw [Int.toNat_natCast, hzi] at hM
     have hM2 : k58.M w3 W0.heap.size _ bs[i] cE := hM
     have hM3 := Kd.M_below (k58.M_mono (ok' := fun k => k < w3.heap.size ∧ f k = i) (fun k hk => ⟨hk.2.2.1, hk.1.2⟩) (k58.M_bound hM2)) HL.out
     obtain ⟨v3, rfl, hR⟩ := k58_openM hM3
     obtain ⟨A3, c3, e3⟩ := Kd.R_slice hR
     subst e3
     have MM := Aside0.mk hM3
     have cell_ : ∀ j u, ([.string bs[i].f0, .int .i64 bs[i].f1, .int .i64 bs[i].f2, .slice A3 bs[i].f3.length c3] : List Value)[j]? = some u → wr.cell? ⟨go, i * 4 + j, none⟩ = some u := fun j u hj => by
      have h := hcc j u hj
      rw [Int.toNat_natCast] at h
      have h2 := (HL.out.cell (World.block_lt_of_cell? _ _ h)).trans h
      have ha : ∀ n, (⟨go, 0, none⟩ : Addr).add n = ⟨go, n, none⟩ := fun n => by cases n <;> simp [Addr.add]
      rw [ha] at h2
      exact h2
     have e0 : wr.cell? ⟨go, i * 4, none⟩ = some (.string bs[i].f0) := cell_ 0 _ rfl
     have e1 : wr.cell? ⟨go, i * 4 + 1, none⟩ = some (.int .i64 bs[i].f1) := cell_ 1 _ rfl
     have e2 : wr.cell? ⟨go, i * 4 + 2, none⟩ = some (.int .i64 bs[i].f2) := cell_ 2 _ rfl
     have e3 : wr.cell? ⟨go, i * 4 + 3, none⟩ = some (.slice A3 bs[i].f3.length c3) := cell_ 3 _ rfl
     clear hM hM2 hM3 hcc hcl hR cell_ hzi hco
     obtain ⟨pt, hpt⟩ : ∃ pt, pt = (insJ tok mem bs i).1 := ⟨_, rfl⟩
     obtain ⟨xs, hxs⟩ : ∃ xs, xs = (insJ tok mem bs i).2 := ⟨_, rfl⟩
     rw [← hxs] at HS KU HV hlen
     rw [← hpt]
     have HPT := Aside0.mk hpt
     have HXS := Aside0.mk hxs
     clear hpt hxs
     cases pt with
     | true =>
      have hu1 : wr.cell? ⟨w3.heap.size + 1 + 1, 1, none⟩ = some (.slice Au xs.length cu) := (blk_cell KU.out 1).trans rfl
      have hu2 : (wr.alloc (.cells [.string bs[i].f0, .int .i64 bs[i].f1, .int .i64 bs[i].f2, .slice A3 bs[i].f3.length c3].toArray 58)).cell? ⟨w3.heap.size + 1 + 1, 1, none⟩ = some (.slice Au xs.length cu) := (blk_cell (blk_alloc KU.out _) 1).trans rfl
      simp only [List.toArray] at hu2
      have SZ0 := Aside0.mk (Nat.le_trans HB3.out.size HL.out.size)
      have SSd := Aside0.mk (Kd.S_drew (Kd.S_mono (Kd.S_bound HS.out) (ok' := fun k => (w3.heap.size ≤ k ∨ f k < i + 1) ∧ ¬ (k < w3.heap.size ∧ f k = i)) (fun k hk => ⟨hk.1.elim .inl (fun h => .inr (by omega)), fun h => hk.1.elim (fun h2 => by omega) (fun h2 => by omega)⟩)))
      have MMd := Aside0.mk (Kd.M_below MM.out (below_drew (Below.refl wr.heap.size wr)))
      have BLd := Aside0.mk (HB3.out.trans (HL.out.mono HB3.out.size)).drew
      go_wp2_with fail
      go_region_law (refine Kd.S_append_step k58 (w0 := W0) (W := wr.drew) W0.heap.size (by simp [Region.wanted]) (.tmp 54) (.tmp 60) 27 58 (.agg #[(.string ⟨#[]⟩), (.int .i64 0), (.int .i64 0), (.slice none 0 0)]) 56 rfl Try.underlying27 info58 rfl (by decide) (by omega) (.slice Au xs.length cu) xs bs[i] [.string bs[i].f0, .int .i64 bs[i].f1, .int .i64 bs[i].f2, .slice A3 bs[i].f3.length c3] (fun k => w3.heap.size ≤ k ∨ f k < i + 1) (fun k => k < w3.heap.size ∧ f k = i) (by simp [Act.eval, Act.put]) (by simp [Act.eval, Act.put]; first | done | rfl) MMd.out (fun k hk => ⟨.inr (by have h : f k = i := hk.2; omega), fun e => by have h1 := HV.out k e.symm; have h2 : k < w3.heap.size := hk.1; omega⟩) (fun k hk => .inl (Nat.le_trans HL.out.size hk)) SSd.out BLd.out SZ0.out (by omega) ?_; intro v6 w6 hS hB hg hat; obtain ⟨A6, c6, e6⟩ := Kd.S_slice hS; subst e6; rw [List.length_append, List.length_singleton] at hS hat; have S6 := Aside0.mk hS; have G6 := Aside0.mk hg; have AT6 := Aside0.mk hat; have CU6 := Aside0.mk (blk_grown (w := wr.drew) KU.out hg (Kd.S_ne HS.out KU.out (by decide))); have CO6 := Aside0.mk (blk_grown (w := wr.drew) KO.out hg (Kd.S_ne HS.out KO.out (by decide))); have hy3 : w6.cell? ⟨w3.heap.size + 1 + 1, 1, none⟩ = some (.slice Au xs.length cu) := (blk_cell CU6.out 1).trans rfl; have hyf3 := blk_frozen CU6.out 1; clear hS hB hg hat)
      all_goals
       have HL7 := Aside0.mk ((HL.out.drew.grown (w := wr.drew) G6.out HL.out.size (fun k hk => HV.out k hk)).setCell (p := ⟨w3.heap.size + 1 + 1, 1, none⟩) (show w3.heap.size ≤ w3.heap.size + 1 + 1 by omega) (.slice A6 (xs.length + 1) c6))
       have KO7 := Aside0.mk ((Below.heap_setCell w6 ⟨w3.heap.size + 1 + 1, 1, none⟩ (.slice A6 (xs.length + 1) c6) w3.heap.size (show w3.heap.size ≠ w3.heap.size + 1 + 1 by omega)).trans CO6.out)
       have KU7 : Aside0 ((w6.setCell ⟨w3.heap.size + 1 + 1, 1, none⟩ (.slice A6 (xs.length + 1) c6)).heap[w3.heap.size + 1 + 1]? = some (.cells #[.int .i64 a0, .slice A6 (xs.length + 1) c6] 29 (0, 0))) := ⟨blk_put CU6.out 1 _ rfl⟩
       have HS7 := Aside0.mk (Kd.S_mono (Kd.S_far (p := ⟨w3.heap.size + 1 + 1, 1, none⟩) (Kd.S_types S6.out CU6.out (by decide)) (fun _ hk => hk.2) (.slice A6 (xs.length + 1) c6)) (ok' := fun k => w3.heap.size ≤ k ∨ f k < i + 1) (fun _ hk => hk.1))
       have HV7 : Aside0 (∀ k, (Value.slice A6 (xs.length + 1) c6).ownBlock = some k → w3.heap.size ≤ k) := ⟨fun k hk => AT6.out.elim (fun h => HV.out k (by rw [← h]; exact hk)) (fun ⟨b, h1, h2⟩ => by rw [h1] at hk; injection hk with hk; have := HL.out.size; have h3 : wr.heap.size ≤ b := h2; omega)⟩
       have hst : insJ tok mem bs (i + 1) = (true, xs ++ [bs[i]]) := by rw [insJ_succ _ _ _ _ hlt]; unfold insStep; rw [← HPT.out, ← HXS.out, if_neg (by simp)]
       clear S6 G6 AT6 CU6 CO6 hy3 hyf3 SSd MMd BLd MM
       go_wp2
       go_roundg (bs.length - (i + 1))
       all_goals (first | omega | (refine ⟨i + 1, _, by omega, by omega, ?_, by simp, HL7, KO7, KU7, ?_, HV7⟩; (first | (rw [hst]) | rfl); (rw [hst]; exact HS7)))
     | false =>
      cases hL : gtB bs[i].f0 tok with
      | false =>
       have hgt := run_gtr Try.prog bs[i].f0 tok wr
       rw [hL] at hgt
       have hu1 : wr.cell? ⟨w3.heap.size + 1 + 1, 1, none⟩ = some (.slice Au xs.length cu) := (blk_cell KU.out 1).trans rfl
       have hu2 : (wr.alloc (.cells [.string bs[i].f0, .int .i64 bs[i].f1, .int .i64 bs[i].f2, .slice A3 bs[i].f3.length c3].toArray 58)).cell? ⟨w3.heap.size + 1 + 1, 1, none⟩ = some (.slice Au xs.length cu) := (blk_cell (blk_alloc KU.out _) 1).trans rfl
       simp only [List.toArray] at hu2
       have SZ0 := Aside0.mk (Nat.le_trans HB3.out.size HL.out.size)
       have SSd := Aside0.mk (Kd.S_drew (Kd.S_mono (Kd.S_bound HS.out) (ok' := fun k => (w3.heap.size ≤ k ∨ f k < i + 1) ∧ ¬ (k < w3.heap.size ∧ f k = i)) (fun k hk => ⟨hk.1.elim .inl (fun h => .inr (by omega)), fun h => hk.1.elim (fun h2 => by omega) (fun h2 => by omega)⟩)))
       have MMd := Aside0.mk (Kd.M_below MM.out (below_drew (Below.refl wr.heap.size wr)))
       have BLd := Aside0.mk (HB3.out.trans (HL.out.mono HB3.out.size)).drew
       go_wp2_with fail
       trace_state
       go_region_law (refine Kd.S_append_step k58 (w0 := W0) (W := wr.drew) W0.heap.size (by simp [Region.wanted]) (.tmp 54) (.tmp 60) 27 58 (.agg #[(.string ⟨#[]⟩), (.int .i64 0), (.int .i64 0), (.slice none 0 0)]) 56 rfl Try.underlying27 info58 rfl (by decide) (by omega) (.slice Au xs.length cu) xs bs[i] [.string bs[i].f0, .int .i64 bs[i].f1, .int .i64 bs[i].f2, .slice A3 bs[i].f3.length c3] (fun k => w3.heap.size ≤ k ∨ f k < i + 1) (fun k => k < w3.heap.size ∧ f k = i) (by simp [Act.eval, Act.put]) (by simp [Act.eval, Act.put]; first | done | rfl) MMd.out (fun k hk => ⟨.inr (by have h : f k = i := hk.2; omega), fun e => by have h1 := HV.out k e.symm; have h2 : k < w3.heap.size := hk.1; omega⟩) (fun k hk => .inl (Nat.le_trans HL.out.size hk)) SSd.out BLd.out SZ0.out (by omega) ?_; intro v6 w6 hS hB hg hat; obtain ⟨A6, c6, e6⟩ := Kd.S_slice hS; subst e6; rw [List.length_append, List.length_singleton] at hS hat; have S6 := Aside0.mk hS; have G6 := Aside0.mk hg; have AT6 := Aside0.mk hat; have CU6 := Aside0.mk (blk_grown (w := wr.drew) KU.out hg (Kd.S_ne HS.out KU.out (by decide))); have CO6 := Aside0.mk (blk_grown (w := wr.drew) KO.out hg (Kd.S_ne HS.out KO.out (by decide))); have hy3 : w6.cell? ⟨w3.heap.size + 1 + 1, 1, none⟩ = some (.slice Au xs.length cu) := (blk_cell CU6.out 1).trans rfl; have hyf3 := blk_frozen CU6.out 1; clear hS hB hg hat)
       all_goals
        have HL7 := Aside0.mk ((HL.out.drew.grown (w := wr.drew) G6.out HL.out.size (fun k hk => HV.out k hk)).setCell (p := ⟨w3.heap.size + 1 + 1, 1, none⟩) (show w3.heap.size ≤ w3.heap.size + 1 + 1 by omega) (.slice A6 (xs.length + 1) c6))
        have KO7 := Aside0.mk ((Below.heap_setCell w6 ⟨w3.heap.size + 1 + 1, 1, none⟩ (.slice A6 (xs.length + 1) c6) w3.heap.size (show w3.heap.size ≠ w3.heap.size + 1 + 1 by omega)).trans CO6.out)
        have KU7 : Aside0 ((w6.setCell ⟨w3.heap.size + 1 + 1, 1, none⟩ (.slice A6 (xs.length + 1) c6)).heap[w3.heap.size + 1 + 1]? = some (.cells #[.int .i64 a0, .slice A6 (xs.length + 1) c6] 29 (0, 0))) := ⟨blk_put CU6.out 1 _ rfl⟩
        have HS7 := Aside0.mk (Kd.S_mono (Kd.S_far (p := ⟨w3.heap.size + 1 + 1, 1, none⟩) (Kd.S_types S6.out CU6.out (by decide)) (fun _ hk => hk.2) (.slice A6 (xs.length + 1) c6)) (ok' := fun k => w3.heap.size ≤ k ∨ f k < i + 1) (fun _ hk => hk.1))
        have HV7 : Aside0 (∀ k, (Value.slice A6 (xs.length + 1) c6).ownBlock = some k → w3.heap.size ≤ k) := ⟨fun k hk => AT6.out.elim (fun h => HV.out k (by rw [← h]; exact hk)) (fun ⟨b, h1, h2⟩ => by rw [h1] at hk; injection hk with hk; have := HL.out.size; have h3 : wr.heap.size ≤ b := h2; omega)⟩
        have hst : insJ tok mem bs (i + 1) = (false, xs ++ [bs[i]]) := by rw [insJ_succ _ _ _ _ hlt]; unfold insStep; rw [← HPT.out, ← HXS.out, if_neg (by rw [hL]; simp)]
        clear S6 G6 AT6 CU6 CO6 hy3 hyf3 SSd MMd BLd MM
        go_wp2
        go_roundg (bs.length - (i + 1))
        all_goals (first | omega | (refine ⟨i + 1, _, by omega, by omega, ?_, by simp, HL7, KO7, KU7, ?_, HV7⟩; (first | (rw [hst]) | rfl); (rw [hst]; exact HS7)))
      | true =>
       have hgt := run_gtr Try.prog bs[i].f0 tok wr
       rw [hL] at hgt
       have zL : (wr.alloc (.cells #[] 60)).heap.size = wr.heap.size + 1 := by simp
       have EB := Aside0.mk (heap_alloc_new wr (.cells #[] 60))
       have SL := Aside0.mk (Kd.S_alloc (Kd.S_mono (Kd.S_bound HS.out) (ok' := fun k => (w3.heap.size ≤ k ∨ f k < i) ∧ ¬ (k = wr.heap.size)) (fun k hk => ⟨hk.1, by have := hk.2.2.1; omega⟩)) (.cells #[] 60))
       have HLs := Aside0.mk HL.out.size
       have ML : Aside0 (k58.M (wr.alloc (.cells #[] 60)) W0.heap.size (fun k => k = wr.heap.size) (⟨tok, mem, 0, []⟩ : S58) [.string tok, .int .i64 mem, .int .i64 0, .slice (some ⟨wr.heap.size, 0, none⟩) 0 0]) := ⟨k58_mkM _ _ _ (⟨tok, mem, 0, []⟩ : S58) (emptyR _ rfl (Nat.le_trans HB3.out.size HL.out.size) EB.out)⟩
       have BLL := Aside0.mk ((HB3.out.trans (HL.out.mono HB3.out.size)).alloc (Nat.le_trans HB3.out.size HL.out.size) (.cells #[] 60))
       have KUL := Aside0.mk (blk_alloc KU.out (.cells #[] 60))
       have KOL := Aside0.mk (blk_alloc KO.out (.cells #[] 60))
       have HLL := Aside0.mk (HL.out.alloc HL.out.size (.cells #[] 60))
       have hu1 : wr.cell? ⟨w3.heap.size + 1 + 1, 1, none⟩ = some (.slice Au xs.length cu) := (blk_cell KU.out 1).trans rfl
       go_wp2_with (first | ((with_reducible refine gate_dst (N := 48) rfl ?_); refine event_run (v := .slice (some ⟨wr.heap.size, 0, none⟩) 0 0) (w1 := (wr.alloc (.cells #[] 60))) ?hg ?hr ?_; (case hg => rfl); (case hr => first | (go_simp; done) | (go_simp; rfl))) | ((with_reducible refine gate_builtin (b := .append) (xs := #[.tmp 45, .tmp 50]) rfl ?_); at_builtin; refine Kd.S_append k58 (w0 := W0) (W := (wr.alloc (.cells #[] 60))) W0.heap.size rfl (.tmp 45) (.tmp 50) 27 58 (.agg #[(.string ⟨#[]⟩), (.int .i64 0), (.int .i64 0), (.slice none 0 0)]) 56 rfl Try.underlying27 info58 rfl (by decide) (by omega) (.slice Au xs.length cu) xs (⟨tok, mem, 0, []⟩ : S58) [.string tok, .int .i64 mem, .int .i64 0, .slice (some ⟨wr.heap.size, 0, none⟩) 0 0] (fun k => w3.heap.size ≤ k ∨ f k < i) (fun k => k = wr.heap.size) rfl ?hx ML.out (fun k hk => ⟨.inl (by have h0 : k = wr.heap.size := hk; have := HLs.out; omega), fun e => by have h0 : k = wr.heap.size := hk; have h1 := Kd.S_bound HS.out; have h2 := h1.choose_spec.1 k e.symm; have h3 := h2.2.2.1; omega⟩) (fun k hk => .inl (by rw [zL] at hk; have := HLs.out; omega)) SL.out BLL.out (by rw [zL]; have := HLs.out; have := HB3.out.size; omega) (by omega) ?_; (case hx => first | rfl | (simp [Act.eval, Act.put]; done) | (simp [Act.eval, Act.put]; rfl)); intro v6 w6 hS hB hg hat; obtain ⟨An, cn, en⟩ := Kd.S_slice hS; subst en; rw [List.length_append, List.length_singleton] at hS hat; have S6 := Aside0.mk hS; have G6 := Aside0.mk hg; have AT6 := Aside0.mk hat; have CU6 := Aside0.mk (blk_grown KUL.out hg (Kd.S_ne SL.out KUL.out (by decide))); have CO6 := Aside0.mk (blk_grown KOL.out hg (Kd.S_ne SL.out KOL.out (by decide))); have hy3 : w6.cell? ⟨w3.heap.size + 1 + 1, 1, none⟩ = some (.slice Au xs.length cu) := (blk_cell CU6.out 1).trans rfl; have hyf3 := blk_frozen CU6.out 1; have hy0 : w6.cell? ⟨w3.heap.size + 1 + 1, 0, none⟩ = some (.int .i64 a0) := (blk_cell CU6.out 0).trans rfl; clear hS hB hg hat))
       have HLn := Aside0.mk ((HLL.out.grown G6.out HLL.out.size (fun k hk => HV.out k hk)).setCell (p := ⟨w3.heap.size + 1 + 1, 1, none⟩) (show w3.heap.size ≤ w3.heap.size + 1 + 1 by omega) (.slice An (xs.length + 1) cn))
       have KOn := Aside0.mk ((Below.heap_setCell w6 ⟨w3.heap.size + 1 + 1, 1, none⟩ (.slice An (xs.length + 1) cn) w3.heap.size (show w3.heap.size ≠ w3.heap.size + 1 + 1 by omega)).trans CO6.out)
       have KUn : Aside0 ((w6.setCell ⟨w3.heap.size + 1 + 1, 1, none⟩ (.slice An (xs.length + 1) cn)).heap[w3.heap.size + 1 + 1]? = some (.cells #[.int .i64 a0, .slice An (xs.length + 1) cn] 29 (0, 0))) := ⟨blk_put CU6.out 1 _ rfl⟩
       have HSn := Aside0.mk (Kd.S_mono (Kd.S_far (p := ⟨w3.heap.size + 1 + 1, 1, none⟩) (Kd.S_types S6.out CU6.out (by decide)) (fun _ hk => hk.2) (.slice An (xs.length + 1) cn)) (ok' := fun k => w3.heap.size ≤ k ∨ f k < i) (fun _ hk => hk.1))
       have HVn : Aside0 (∀ k, (Value.slice An (xs.length + 1) cn).ownBlock = some k → w3.heap.size ≤ k) := ⟨fun k hk => AT6.out.elim (fun h => HV.out k (by rw [← h]; exact hk)) (fun ⟨b, h1, h2⟩ => by rw [h1] at hk; injection hk with hk; have := HL.out.size; rw [zL] at h2; omega)⟩
       have hl2 : (xs ++ [(⟨tok, mem, 0, []⟩ : S58)]).length = xs.length + 1 := by simp
       obtain ⟨xs2, hxs2⟩ : ∃ xs2, xs2 = xs ++ [(⟨tok, mem, 0, []⟩ : S58)] := ⟨_, rfl⟩
       rw [← hxs2] at hl2 HSn
       rw [← hl2] at HLn KOn KUn HSn HVn ⊢
       have HX2 := Aside0.mk hxs2
       have LEN2 := Aside0.mk hl2
       have hlen2 : xs2.length ≤ 2 * bs.length + 1 := by rw [hl2]; omega
       clear hxs2 hl2
       obtain ⟨wq, hwq⟩ : ∃ wq, wq = w6.setCell ⟨w3.heap.size + 1 + 1, 1, none⟩ (.slice An xs2.length cn) := ⟨_, rfl⟩
       rw [← hwq] at HLn KOn KUn HSn ⊢
       have MMn := Aside0.mk (Kd.M_step MM.out (w1 := wq) (fun k hk _ => (HLn.out.block k hk.1).trans (HL.out.block k hk.1).symm))
       have e0n : wq.cell? ⟨go, i * 4, none⟩ = some (.string bs[i].f0) := (HLn.out.cell hgo2).trans ((HL.out.cell hgo2).symm.trans e0)
       have e1n : wq.cell? ⟨go, i * 4 + 1, none⟩ = some (.int .i64 bs[i].f1) := (HLn.out.cell hgo2).trans ((HL.out.cell hgo2).symm.trans e1)
       have e2n : wq.cell? ⟨go, i * 4 + 2, none⟩ = some (.int .i64 bs[i].f2) := (HLn.out.cell hgo2).trans ((HL.out.cell hgo2).symm.trans e2)
       have e3n : wq.cell? ⟨go, i * 4 + 3, none⟩ = some (.slice A3 bs[i].f3.length c3) := (HLn.out.cell hgo2).trans ((HL.out.cell hgo2).symm.trans e3)
       have hx8n : wq.cell? ⟨w3.heap.size, 1, none⟩ = some (.slice (some ⟨go, 0, none⟩) bs.length co) := (blk_cell KOn.out 1).trans rfl
       clear e0 e1 e2 e3 hx8 MM hwq S6 G6 AT6 CU6 CO6 hy3 hyf3 hy0 HL KO KU HS HV hu1 zL EB SL HLs ML BLL KUL KOL HLL hgt
       have MM := MMn
       clear MMn
       have hu1 : wq.cell? ⟨w3.heap.size + 1 + 1, 1, none⟩ = some (.slice An xs2.length cn) := (blk_cell KUn.out 1).trans rfl
       have hu2 : (wq.alloc (.cells [.string bs[i].f0, .int .i64 bs[i].f1, .int .i64 bs[i].f2, .slice A3 bs[i].f3.length c3].toArray 58)).cell? ⟨w3.heap.size + 1 + 1, 1, none⟩ = some (.slice An xs2.length cn) := (blk_cell (blk_alloc KUn.out _) 1).trans rfl
       simp only [List.toArray] at hu2
       have SZ0 := Aside0.mk (Nat.le_trans HB3.out.size HLn.out.size)
       have SSd := Aside0.mk (Kd.S_drew (Kd.S_mono (Kd.S_bound HSn.out) (ok' := fun k => (w3.heap.size ≤ k ∨ f k < i + 1) ∧ ¬ (k < w3.heap.size ∧ f k = i)) (fun k hk => ⟨hk.1.elim .inl (fun h => .inr (by omega)), fun h => hk.1.elim (fun h2 => by omega) (fun h2 => by omega)⟩)))
       have MMd := Aside0.mk (Kd.M_below MM.out (below_drew (Below.refl wq.heap.size wq)))
       have BLd := Aside0.mk (HB3.out.trans (HLn.out.mono HB3.out.size)).drew
       go_wp2_with fail
       go_region_law (refine Kd.S_append_step k58 (w0 := W0) (W := wq.drew) W0.heap.size (by simp [Region.wanted]) (.tmp 54) (.tmp 60) 27 58 (.agg #[(.string ⟨#[]⟩), (.int .i64 0), (.int .i64 0), (.slice none 0 0)]) 56 rfl Try.underlying27 info58 rfl (by decide) (by omega) (.slice An xs2.length cn) xs2 bs[i] [.string bs[i].f0, .int .i64 bs[i].f1, .int .i64 bs[i].f2, .slice A3 bs[i].f3.length c3] (fun k => w3.heap.size ≤ k ∨ f k < i + 1) (fun k => k < w3.heap.size ∧ f k = i) (by simp [Act.eval, Act.put]) (by simp [Act.eval, Act.put]; first | done | rfl) MMd.out (fun k hk => ⟨.inr (by have h : f k = i := hk.2; omega), fun e => by have h1 := HVn.out k e.symm; have h2 : k < w3.heap.size := hk.1; omega⟩) (fun k hk => .inl (Nat.le_trans HLn.out.size hk)) SSd.out BLd.out SZ0.out (by omega) ?_; intro v6 w6 hS hB hg hat; obtain ⟨A6, c6, e6⟩ := Kd.S_slice hS; subst e6; rw [List.length_append, List.length_singleton] at hS hat; have S6 := Aside0.mk hS; have G6 := Aside0.mk hg; have AT6 := Aside0.mk hat; have CU6 := Aside0.mk (blk_grown (w := wq.drew) KUn.out hg (Kd.S_ne HSn.out KUn.out (by decide))); have CO6 := Aside0.mk (blk_grown (w := wq.drew) KOn.out hg (Kd.S_ne HSn.out KOn.out (by decide))); have hy3 : w6.cell? ⟨w3.heap.size + 1 + 1, 1, none⟩ = some (.slice An xs2.length cn) := (blk_cell CU6.out 1).trans rfl; have hyf3 := blk_frozen CU6.out 1; clear hS hB hg hat)
       all_goals
        have HL7 := Aside0.mk ((HLn.out.drew.grown (w := wq.drew) G6.out HLn.out.size (fun k hk => HVn.out k hk)).setCell (p := ⟨w3.heap.size + 1 + 1, 1, none⟩) (show w3.heap.size ≤ w3.heap.size + 1 + 1 by omega) (.slice A6 (xs2.length + 1) c6))
        have KO7 := Aside0.mk ((Below.heap_setCell w6 ⟨w3.heap.size + 1 + 1, 1, none⟩ (.slice A6 (xs2.length + 1) c6) w3.heap.size (show w3.heap.size ≠ w3.heap.size + 1 + 1 by omega)).trans CO6.out)
        have KU7 : Aside0 ((w6.setCell ⟨w3.heap.size + 1 + 1, 1, none⟩ (.slice A6 (xs2.length + 1) c6)).heap[w3.heap.size + 1 + 1]? = some (.cells #[.int .i64 a0, .slice A6 (xs2.length + 1) c6] 29 (0, 0))) := ⟨blk_put CU6.out 1 _ rfl⟩
        have HS7 := Aside0.mk (Kd.S_mono (Kd.S_far (p := ⟨w3.heap.size + 1 + 1, 1, none⟩) (Kd.S_types S6.out CU6.out (by decide)) (fun _ hk => hk.2) (.slice A6 (xs2.length + 1) c6)) (ok' := fun k => w3.heap.size ≤ k ∨ f k < i + 1) (fun _ hk => hk.1))
        have HV7 : Aside0 (∀ k, (Value.slice A6 (xs2.length + 1) c6).ownBlock = some k → w3.heap.size ≤ k) := ⟨fun k hk => AT6.out.elim (fun h => HVn.out k (by rw [← h]; exact hk)) (fun ⟨b, h1, h2⟩ => by rw [h1] at hk; injection hk with hk; have := HLn.out.size; have h3 : wq.heap.size ≤ b := h2; omega)⟩
        have hst : insJ tok mem bs (i + 1) = (true, xs2 ++ [bs[i]]) := by rw [insJ_succ _ _ _ _ hlt]; unfold insStep; rw [← HPT.out, ← HXS.out, if_pos ⟨rfl, hL⟩, HX2.out]
        clear S6 G6 AT6 CU6 CO6 hy3 hyf3 SSd MMd BLd MM
        go_wp2
        go_roundg (bs.length - (i + 1))
        all_goals (first | omega | (refine ⟨i + 1, _, by omega, by omega, ?_, by simp, HL7, KO7, KU7, ?_, HV7⟩; (first | (rw [hst]) | rfl); (rw [hst]; exact HS7)))
    ·have hieq : i = bs.length := by omega
     subst hieq
     clear TR
     obtain ⟨pt, hpt⟩ : ∃ pt, pt = (insJ tok mem bs bs.length).1 := ⟨_, rfl⟩
     obtain ⟨xs, hxs⟩ : ∃ xs, xs = (insJ tok mem bs bs.length).2 := ⟨_, rfl⟩
     rw [← hxs] at HS KU HV hlen
     rw [← hpt]
     have HPT := Aside0.mk hpt
     have HXS := Aside0.mk hxs
     clear hpt hxs
     have BW0 := HB3.out.trans (HL.out.mono HB3.out.size)
     have hh := HH.out
     clear HH
     cases pt with
     | true =>
      have hB : insB tok mem bs = xs := by unfold insB; rw [← HPT.out, if_pos rfl, ← HXS.out]
      rw [hB] at hh
      obtain ⟨t4, h4, h⟩ := Option.bind_eq_some_iff.mp hh
      have IS4 := Aside0.mk h4
      have BW := Aside0.mk BW0
      have hu0 : wr.cell? ⟨w3.heap.size + 1 + 1, 0, none⟩ = some (.int .i64 a0) := (blk_cell KU.out 0).trans rfl
      have hu1 : wr.cell? ⟨w3.heap.size + 1 + 1, 1, none⟩ = some (.slice Au xs.length cu) := (blk_cell KU.out 1).trans rfl
      clear hh h4 BW0 hB
      cases t4 with
      | false =>
       rw [if_neg (by simp)] at h
       injection h with h
       simp only [Prod.mk.injEq] at h
       obtain ⟨rfl, rfl, rfl⟩ := h
       go_wp2_with (go_at_call 90; refine (giveS k a0 Au cu xs false wr (Kd.S_reads' HS.out).2.2 (Kd.S_reads' HS.out).2.1 IS4.out).mono ?_; rintro e w7 ⟨rfl, hb7⟩; have S7 := Aside0.mk (Kd.S_below HS.out hb7); have HBf := Aside0.mk (BW.out.trans (hb7.mono BW.out.size)); have b47 := Aside0.mk (blk_bel (blk_bel b4.out BW.out) hb7); clear hb7; have hz0 : w7.cell? ⟨w.heap.size + 1, 0, none⟩ = some (.int .i64 0) := (blk_cell b47.out 0).trans rfl; have hz1 : w7.cell? ⟨w.heap.size + 1, 1, none⟩ = some (.slice none 0 0) := (blk_cell b47.out 1).trans rfl; have hf0 := blk_frozen b47.out 0; have hf1 := blk_frozen b47.out 1)
       refine bodyPost_ret (results_ct rfl _ _ (w.heap.size + 1) 29 #[.int .i64 0, .slice none 0 0] (0, 0) _ rfl (by refine blk_put (cs := #[.int .i64 0, .slice none 0 0]) ?_ 1 _ rfl; refine blk_put (cs := #[.int .i64 0, .slice none 0 0]) ?_ 0 _ rfl; exact b47.out) Try.underlying29 rfl (by kernel_rfl)) rfl ?_
       exact ⟨_, rfl, Kd.S_nil _ _ _ _ _, below_set (below_set (HB.out.trans (HBf.out.mono HB.out.size)) (by omega)) (by omega)⟩
      | true =>
       rw [if_pos rfl] at h
       injection h with h
       simp only [Prod.mk.injEq] at h
       obtain ⟨rfl, rfl, rfl⟩ := h
       go_wp2_with (go_at_call 90; refine (giveS k a0 Au cu xs true wr (Kd.S_reads' HS.out).2.2 (Kd.S_reads' HS.out).2.1 IS4.out).mono ?_; rintro e w7 ⟨rfl, hb7⟩; have S7 := Aside0.mk (Kd.S_below HS.out hb7); have HBf := Aside0.mk (BW.out.trans (hb7.mono BW.out.size)); have b47 := Aside0.mk (blk_bel (blk_bel b4.out BW.out) hb7); clear hb7; have hz0 : w7.cell? ⟨w.heap.size + 1, 0, none⟩ = some (.int .i64 0) := (blk_cell b47.out 0).trans rfl; have hz1 : w7.cell? ⟨w.heap.size + 1, 1, none⟩ = some (.slice none 0 0) := (blk_cell b47.out 1).trans rfl; have hf0 := blk_frozen b47.out 0; have hf1 := blk_frozen b47.out 1)
       refine bodyPost_ret (results_ct rfl _ _ (w.heap.size + 1) 29 #[.int .i64 a0, .slice Au xs.length cu] (0, 0) _ rfl (by refine blk_put (cs := #[.int .i64 a0, .slice none 0 0]) ?_ 1 _ rfl; refine blk_put (cs := #[.int .i64 0, .slice none 0 0]) ?_ 0 _ rfl; exact b47.out) Try.underlying29 rfl (by kernel_rfl)) rfl ?_
       exact ⟨_, rfl, Kd.S_mono (Kd.S_lower (Kd.S_far (p := ⟨w.heap.size + 1, 1, none⟩) (Kd.S_far (p := ⟨w.heap.size + 1, 0, none⟩) (Kd.S_types S7.out b47.out (by decide)) (fun _ hk => hk.2) _) (fun _ hk => hk.2) _) HB.out.size) (fun _ _ => trivial), below_set (below_set (HB.out.trans (HBf.out.mono HB.out.size)) (by omega)) (by omega)⟩
     | false =>
      have hB : insB tok mem bs = xs ++ [(⟨tok, mem, 0, []⟩ : S58)] := by unfold insB; rw [← HPT.out, if_neg (by simp), ← HXS.out]
      rw [hB] at hh
      have zL : (wr.alloc (.cells #[] 60)).heap.size = wr.heap.size + 1 := by simp
      have EB := Aside0.mk (heap_alloc_new wr (.cells #[] 60))
      have SL := Aside0.mk (Kd.S_alloc (Kd.S_mono (Kd.S_bound HS.out) (ok' := fun k => (w3.heap.size ≤ k ∨ f k < bs.length) ∧ ¬ (k = wr.heap.size)) (fun k hk => ⟨hk.1, by have := hk.2.2.1; omega⟩)) (.cells #[] 60))
      have HLs := Aside0.mk HL.out.size
      have ML : Aside0 (k58.M (wr.alloc (.cells #[] 60)) W0.heap.size (fun k => k = wr.heap.size) (⟨tok, mem, 0, []⟩ : S58) [.string tok, .int .i64 mem, .int .i64 0, .slice (some ⟨wr.heap.size, 0, none⟩) 0 0]) := ⟨k58_mkM _ _ _ (⟨tok, mem, 0, []⟩ : S58) (emptyR _ rfl (Nat.le_trans HB3.out.size HL.out.size) EB.out)⟩
      have BLL := Aside0.mk ((HB3.out.trans (HL.out.mono HB3.out.size)).alloc (Nat.le_trans HB3.out.size HL.out.size) (.cells #[] 60))
      have KUL := Aside0.mk (blk_alloc KU.out (.cells #[] 60))
      have KOL := Aside0.mk (blk_alloc KO.out (.cells #[] 60))
      have HLL := Aside0.mk (HL.out.alloc HL.out.size (.cells #[] 60))
      have hu1 : wr.cell? ⟨w3.heap.size + 1 + 1, 1, none⟩ = some (.slice Au xs.length cu) := (blk_cell KU.out 1).trans rfl
      go_wp2_with (first | ((with_reducible refine gate_dst (N := 69) rfl ?_); refine event_run (v := .slice (some ⟨wr.heap.size, 0, none⟩) 0 0) (w1 := (wr.alloc (.cells #[] 60))) ?hg ?hr ?_; (case hg => rfl); (case hr => first | (go_simp; done) | (go_simp; rfl))) | ((with_reducible refine gate_builtin (b := .append) (xs := #[.tmp 66, .tmp 71]) rfl ?_); at_builtin; refine Kd.S_append k58 (w0 := W0) (W := (wr.alloc (.cells #[] 60))) W0.heap.size rfl (.tmp 66) (.tmp 71) 27 58 (.agg #[(.string ⟨#[]⟩), (.int .i64 0), (.int .i64 0), (.slice none 0 0)]) 56 rfl Try.underlying27 info58 rfl (by decide) (by omega) (.slice Au xs.length cu) xs (⟨tok, mem, 0, []⟩ : S58) [.string tok, .int .i64 mem, .int .i64 0, .slice (some ⟨wr.heap.size, 0, none⟩) 0 0] (fun k => w3.heap.size ≤ k ∨ f k < bs.length) (fun k => k = wr.heap.size) rfl ?hx ML.out (fun k hk => ⟨.inl (by have h0 : k = wr.heap.size := hk; have := HLs.out; omega), fun e => by have h0 : k = wr.heap.size := hk; have h1 := Kd.S_bound HS.out; have h2 := h1.choose_spec.1 k e.symm; have h3 := h2.2.2.1; omega⟩) (fun k hk => .inl (by rw [zL] at hk; have := HLs.out; omega)) SL.out BLL.out (by rw [zL]; have := HLs.out; have := HB3.out.size; omega) (by omega) ?_; (case hx => first | rfl | (simp [Act.eval, Act.put]; done) | (simp [Act.eval, Act.put]; rfl)); intro v6 w6 hS hB hg hat; obtain ⟨An, cn, en⟩ := Kd.S_slice hS; subst en; rw [List.length_append, List.length_singleton] at hS hat; have S6 := Aside0.mk hS; have G6 := Aside0.mk hg; have AT6 := Aside0.mk hat; have CU6 := Aside0.mk (blk_grown KUL.out hg (Kd.S_ne SL.out KUL.out (by decide))); have CO6 := Aside0.mk (blk_grown KOL.out hg (Kd.S_ne SL.out KOL.out (by decide))); have hy3 : w6.cell? ⟨w3.heap.size + 1 + 1, 1, none⟩ = some (.slice Au xs.length cu) := (blk_cell CU6.out 1).trans rfl; have hyf3 := blk_frozen CU6.out 1; have hy0 : w6.cell? ⟨w3.heap.size + 1 + 1, 0, none⟩ = some (.int .i64 a0) := (blk_cell CU6.out 0).trans rfl; clear hS hB hg hat))
      have HLn := Aside0.mk ((HLL.out.grown G6.out HLL.out.size (fun k hk => HV.out k hk)).setCell (p := ⟨w3.heap.size + 1 + 1, 1, none⟩) (show w3.heap.size ≤ w3.heap.size + 1 + 1 by omega) (.slice An (xs.length + 1) cn))
      have KOn := Aside0.mk ((Below.heap_setCell w6 ⟨w3.heap.size + 1 + 1, 1, none⟩ (.slice An (xs.length + 1) cn) w3.heap.size (show w3.heap.size ≠ w3.heap.size + 1 + 1 by omega)).trans CO6.out)
      have KUn : Aside0 ((w6.setCell ⟨w3.heap.size + 1 + 1, 1, none⟩ (.slice An (xs.length + 1) cn)).heap[w3.heap.size + 1 + 1]? = some (.cells #[.int .i64 a0, .slice An (xs.length + 1) cn] 29 (0, 0))) := ⟨blk_put CU6.out 1 _ rfl⟩
      have HSn := Aside0.mk (Kd.S_mono (Kd.S_far (p := ⟨w3.heap.size + 1 + 1, 1, none⟩) (Kd.S_types S6.out CU6.out (by decide)) (fun _ hk => hk.2) (.slice An (xs.length + 1) cn)) (ok' := fun k => w3.heap.size ≤ k ∨ f k < bs.length) (fun _ hk => hk.1))
      have HVn : Aside0 (∀ k, (Value.slice An (xs.length + 1) cn).ownBlock = some k → w3.heap.size ≤ k) := ⟨fun k hk => AT6.out.elim (fun h => HV.out k (by rw [← h]; exact hk)) (fun ⟨b, h1, h2⟩ => by rw [h1] at hk; injection hk with hk; have := HL.out.size; rw [zL] at h2; omega)⟩
      have hl2 : (xs ++ [(⟨tok, mem, 0, []⟩ : S58)]).length = xs.length + 1 := by simp
      obtain ⟨xs2, hxs2⟩ : ∃ xs2, xs2 = xs ++ [(⟨tok, mem, 0, []⟩ : S58)] := ⟨_, rfl⟩
      rw [← hxs2] at hl2 HSn hh
      rw [← hl2] at HLn KOn KUn HSn HVn ⊢
      obtain ⟨wq, hwq⟩ : ∃ wq, wq = w6.setCell ⟨w3.heap.size + 1 + 1, 1, none⟩ (.slice An xs2.length cn) := ⟨_, rfl⟩
      rw [← hwq] at HLn KOn KUn HSn ⊢
      have BW := Aside0.mk (HB3.out.trans (HLn.out.mono HB3.out.size))
      obtain ⟨t4, h4, h⟩ := Option.bind_eq_some_iff.mp hh
      have IS4 := Aside0.mk h4
      clear hh h4 BW0 hB hl2 hxs2 hwq S6 G6 AT6 CU6 CO6 hy3 hyf3 hy0 HL KO KU HS HV hu1 zL EB SL HLs ML BLL KUL KOL HLL
      cases t4 with
      | false =>
       rw [if_neg (by simp)] at h
       injection h with h
       simp only [Prod.mk.injEq] at h
       obtain ⟨rfl, rfl, rfl⟩ := h
       go_wp2_with (go_at_call 90; refine (giveS k a0 An cn xs2 false wq (Kd.S_reads' HSn.out).2.2 (Kd.S_reads' HSn.out).2.1 IS4.out).mono ?_; rintro e w7 ⟨rfl, hb7⟩; have S7 := Aside0.mk (Kd.S_below HSn.out hb7); have HBf := Aside0.mk (BW.out.trans (hb7.mono BW.out.size)); have b47 := Aside0.mk (blk_bel (blk_bel b4.out BW.out) hb7); clear hb7; have hz0 : w7.cell? ⟨w.heap.size + 1, 0, none⟩ = some (.int .i64 0) := (blk_cell b47.out 0).trans rfl; have hz1 : w7.cell? ⟨w.heap.size + 1, 1, none⟩ = some (.slice none 0 0) := (blk_cell b47.out 1).trans rfl; have hf0 := blk_frozen b47.out 0; have hf1 := blk_frozen b47.out 1)
       refine bodyPost_ret (results_ct rfl _ _ (w.heap.size + 1) 29 #[.int .i64 0, .slice none 0 0] (0, 0) _ rfl (by refine blk_put (cs := #[.int .i64 0, .slice none 0 0]) ?_ 1 _ rfl; refine blk_put (cs := #[.int .i64 0, .slice none 0 0]) ?_ 0 _ rfl; exact b47.out) Try.underlying29 rfl (by kernel_rfl)) rfl ?_
       exact ⟨_, rfl, Kd.S_nil _ _ _ _ _, below_set (below_set (HB.out.trans (HBf.out.mono HB.out.size)) (by omega)) (by omega)⟩
      | true =>
       rw [if_pos rfl] at h
       injection h with h
       simp only [Prod.mk.injEq] at h
       obtain ⟨rfl, rfl, rfl⟩ := h
       go_wp2_with (go_at_call 90; refine (giveS k a0 An cn xs2 true wq (Kd.S_reads' HSn.out).2.2 (Kd.S_reads' HSn.out).2.1 IS4.out).mono ?_; rintro e w7 ⟨rfl, hb7⟩; have S7 := Aside0.mk (Kd.S_below HSn.out hb7); have HBf := Aside0.mk (BW.out.trans (hb7.mono BW.out.size)); have b47 := Aside0.mk (blk_bel (blk_bel b4.out BW.out) hb7); clear hb7; have hz0 : w7.cell? ⟨w.heap.size + 1, 0, none⟩ = some (.int .i64 0) := (blk_cell b47.out 0).trans rfl; have hz1 : w7.cell? ⟨w.heap.size + 1, 1, none⟩ = some (.slice none 0 0) := (blk_cell b47.out 1).trans rfl; have hf0 := blk_frozen b47.out 0; have hf1 := blk_frozen b47.out 1)
       refine bodyPost_ret (results_ct rfl _ _ (w.heap.size + 1) 29 #[.int .i64 a0, .slice An xs2.length cn] (0, 0) _ rfl (by refine blk_put (cs := #[.int .i64 a0, .slice none 0 0]) ?_ 1 _ rfl; refine blk_put (cs := #[.int .i64 0, .slice none 0 0]) ?_ 0 _ rfl; exact b47.out) Try.underlying29 rfl (by kernel_rfl)) rfl ?_
       exact ⟨_, rfl, Kd.S_mono (Kd.S_lower (Kd.S_far (p := ⟨w.heap.size + 1, 1, none⟩) (Kd.S_far (p := ⟨w.heap.size + 1, 0, none⟩) (Kd.S_types S7.out b47.out (by decide)) (fun _ hk => hk.2) _) (fun _ hk => hk.2) _) HB.out.size) (fun _ _ => trivial), below_set (below_set (HB.out.trans (HBf.out.mono HB.out.size)) (by omega)) (by omega)⟩
/-- What R8Post chooses tokens from. -/
def toks8 : List ByteArray := [(⟨#[97, 97, 97, 97, 97, 97, 97, 97, 97, 97, 97, 97, 97, 97, 97, 97]⟩ : ByteArray), (⟨#[97, 97, 97, 97, 97, 97, 97, 97, 97, 97, 97, 97, 97, 97, 97, 98]⟩ : ByteArray), (⟨#[98, 98, 98, 98, 98, 98, 98, 98, 98, 98, 98, 98, 98, 98, 98, 98]⟩ : ByteArray), (⟨#[48, 49, 50, 51, 52, 53, 54, 55, 56, 57, 97, 98, 99, 100, 101, 102]⟩ : ByteArray), (⟨#[99, 99, 99, 99, 99, 99, 99, 99, 99, 99, 99, 99, 99, 99, 99, 99]⟩ : ByteArray)]
theorem strC (W : World) (xs : List ByteArray) (hx : xs.length ≤ 100) : Kd.C Kd.string (W.alloc (.cells (xs.map Value.string).toArray 9)) (some ⟨W.heap.size, 0, none⟩) xs.length xs := by
 refine ⟨rfl, by omega, fun hn => ⟨_, rfl, fun j p hj => ⟨[.string p], rfl, rfl, fun i u hu => ?_⟩⟩⟩
 obtain ⟨hl, hp⟩ := List.getElem?_eq_some_iff.1 hj
 have hi : i = 0 := by
  cases i with
  | zero => rfl
  | succ i => cases hu
 subst hi
 injection hu with hu
 subst hu
 have hb := blk_cell (heap_alloc_new W (.cells (xs.map Value.string).toArray 9)) j
 have ha : ∀ n, (⟨W.heap.size, 0, none⟩ : Addr).add n = ⟨W.heap.size, n, none⟩ := fun n => by cases n <;> simp [Addr.add]
 show World.cell? _ ((⟨W.heap.size, 0, none⟩ : Addr).add (j * 1 + 0)) = _
 rw [ha, Nat.mul_one, Nat.add_zero, hb]
 simp [hj]
/-- How things stand in R8Post: the source, the result's block, the post under way. -/
structure R8St (w : World) (gs gO : Nat) (l : List Int) (s1 s2 : Int) (lim : Int) (A : Option Addr) (c : Nat) (bs : List S58) (W : World) : Prop where
 src : IsS120 w W gs l s1 s2
 bel : Below w.heap.size w W
 res : W.heap[w.heap.size]? = some (.cells #[.int .i64 0, .slice none 0 0] 29 (0, 0))
 ne : gO ≠ w.heap.size
 ge : w.heap.size ≤ gO
 out : W.heap[gO]? = some (.cells #[.int .i64 lim, .slice A bs.length c] 29 (0, 0))
 own : Kd.S k58 58 W w.heap.size (fun _ => True) (.slice A bs.length c) bs
section
variable {w W W1 : World} {gs gO : Nat} {l : List Int} {s1 s2 t1 t2 lim : Int} {A : Option Addr} {c : Nat} {bs : List S58}
theorem R8St.below (h : R8St w gs gO l s1 s2 lim A c bs W) (hb : Below W.heap.size W W1) : R8St w gs gO l s1 s2 lim A c bs W1 :=
 ⟨h.src.below hb, below_step h.bel hb, blk_bel h.res hb, h.ne, h.ge, blk_bel h.out hb, Kd.S_below h.own hb⟩
theorem R8St.alloc (h : R8St w gs gO l s1 s2 lim A c bs W) (o : Obj) : R8St w gs gO l s1 s2 lim A c bs (W.alloc o) := h.below (below_alloc (Below.refl _ _) o)
theorem R8St.drew (h : R8St w gs gO l s1 s2 lim A c bs W) : R8St w gs gO l s1 s2 lim A c bs W.drew := h.below (below_drew (Below.refl _ _))
theorem R8St.pick (h : R8St w gs gO l s1 s2 lim A c bs W) (hi : IsS120 w W1 gs l t1 t2) (hb : Below w.heap.size w W1) (hk : KeepBut W W1 gs none) : R8St w gs gO l t1 t2 lim A c bs W1 :=
 ⟨hi, hb, (hk.2 _ (blk_lt h.res) (fun e => h.src.ne_blk h.res (by decide) e.symm) (by simp)).trans h.res, h.ne, h.ge, (hk.2 _ (blk_lt h.out) (fun e => h.src.ne_blk h.out (by decide) e.symm) (by simp)).trans h.out, Kd.S_mono (Kd.S_keep (h.src.apartS h.own (by decide)) hk (fun _ hk => hk.2)) (fun _ _ => trivial)⟩
theorem R8St.far (h : R8St w gs gO l s1 s2 lim A c bs W) {g : Nat} {cs : Array Value} (hg : W.heap[g]? = some (.cells cs 29 (0, 0))) (h1 : w.heap.size < g) (h2 : gO < g) (j : Nat) (u : Value) : R8St w gs gO l s1 s2 lim A c bs (W.setCell ⟨g, j, none⟩ u) :=
 ⟨h.src.far (h.src.ne_blk hg (by decide)) u, below_set h.bel (Nat.le_of_lt h1), (Below.heap_setCell W ⟨g, j, none⟩ u _ (show w.heap.size ≠ g by omega)).trans h.res, h.ne, h.ge, (Below.heap_setCell W ⟨g, j, none⟩ u _ (show gO ≠ g by omega)).trans h.out, Kd.S_mono (Kd.S_far (p := ⟨g, j, none⟩) (Kd.S_types h.own hg (by decide)) (fun _ hk => hk.2) u) (fun _ _ => trivial)⟩
/-- A block that was made, and what came since. -/
abbrev Made (w : World) (gO g : Nat) (W : World) : Prop := W.heap[g]? = some (.cells #[.int .i64 0, .slice none 0 0] 29 (0, 0)) ∧ w.heap.size < g ∧ gO < g
theorem made_pick1 (h : R8St w gs gO l s1 s2 lim A c bs W) (hk : KeepBut (W.alloc (.cells #[.int .i64 0, .slice none 0 0] 29)) W1 gs none) : Made w gO W.heap.size W1 :=
 ⟨(hk.2 _ (by simp) (fun e => by have := h.src.lt; omega) (by simp)).trans (heap_alloc_new W _), blk_lt h.res, blk_lt h.out⟩
theorem made_pick2 (h : R8St w gs gO l s1 s2 lim A c bs W) (hk : KeepBut (W.alloc (.cells #[.int .i64 0, .slice none 0 0] 29)).drew W1 gs none) : Made w gO W.heap.size W1 :=
 ⟨(hk.2 _ (by simp) (fun e => by have := h.src.lt; omega) (by simp)).trans (heap_alloc_new W _), blk_lt h.res, blk_lt h.out⟩
theorem made_bel1 (h : R8St w gs gO l s1 s2 lim A c bs W) (hb : Below (W.alloc (.cells #[.int .i64 0, .slice none 0 0] 29)).heap.size (W.alloc (.cells #[.int .i64 0, .slice none 0 0] 29)) W1) : Made w gO W.heap.size W1 :=
 ⟨blk_bel (heap_alloc_new W _) hb, blk_lt h.res, blk_lt h.out⟩
theorem lowS2 {u : World} {v : Value} {xs : List S58} (h : Kd.S k58 58 u W.heap.size (fun _ => True) v xs) (hw : R8St w gs gO l s1 s2 lim A c bs W) : Kd.S k58 58 u w.heap.size (fun _ => True) v xs := Kd.S_lower h hw.bel.size
theorem Made.bel {g : Nat} (h : Made w gO g W) (hb : Below W.heap.size W W1) : Made w gO g W1 := ⟨blk_bel h.1 hb, h.2⟩
end
/-- Boxes are added. -/
def r8A (K : Nat) : Nat → Int → Int → List S58 → List Int → Int → Int → Option (List S58 × Int × Int)
 | 0, _, _, _, _, _, _ => none
 | g + 1, lim, x, bs, l, s1, s2 => if 0 < x then ((spec_l00Src_text.f l s1 s2 toks8).bind fun t => (spec_l00Src_pick.f l t.2.1 t.2.2 4).bind fun u => (addF K lim bs t.1 (wrap64 (1 + u.1))).bind fun a => r8A K g lim (wrap64 (x - 1)) (if a.2.2 = true then a.2.1 else bs) l u.2.1 u.2.2) else some (bs, s1, s2)
theorem addF_lim {k : Nat} {a0 : Int} {l0 : List S58} {tok : ByteArray} {mem r1 : Int} {r2 : List S58} (h : addF k a0 l0 tok mem = some (r1, r2, true)) : r1 = a0 := by
 unfold addF at h
 obtain ⟨t1, _, h⟩ := Option.bind_eq_some_iff.mp h
 cases t1 with
 | false => simp at h
 | true =>
  rw [if_pos rfl] at h
  obtain ⟨t2, _, h⟩ := Option.bind_eq_some_iff.mp h
  split at h
  ·simp at h
  ·obtain ⟨t3, _, h⟩ := Option.bind_eq_some_iff.mp h
   split at h
   ·obtain ⟨t4, _, h⟩ := Option.bind_eq_some_iff.mp h
    cases t4 with
    | false => simp at h
    | true => simp at h; exact h.1.symm
   ·cases h
/-- A box is filled. -/
def r8In : Nat → List S60 → Int → List Int → Int → Int → Option (List S60 × Int × Int)
 | 0, _, _, _, _, _ => none
 | g + 1, held, x, l, s1, s2 => if 0 < x then ((spec_l00Src_pick.f l s1 s2 4).bind fun u => (spec_l00Src_pick.f l u.2.1 u.2.2 50).bind fun v => if held.length ≤ 900 then r8In g (held ++ [⟨wrap64 (1 + u.1), wrap64 (1 + v.1)⟩]) (wrap64 (x - 1)) l v.2.1 v.2.2 else none) else some (held, s1, s2)
/-- The boxes are filled. -/
def r8B (K : Nat) : Nat → Int → List S58 → Nat → List Int → Int → Int → Option (List S58 × Int × Int)
 | 0, _, _, _, _, _, _ => none
 | g + 1, lim, bs, i, l, s1, s2 => if h : i < bs.length then ((spec_l00Src_pick.f l s1 s2 (wrap64 (lim + 1))).bind fun n => (r8In K bs[i].f3 n.1 l n.2.1 n.2.2).bind fun hh => (spec_l00Src_pick.f l hh.2.1 hh.2.2 3).bind fun m => r8B K g lim (bs.set i ⟨bs[i].f0, bs[i].f1, m.1, hh.1⟩) (i + 1) l m.2.1 m.2.2) else some (bs, s1, s2)
set_option maxHeartbeats 16000000 in
set_option maxRecDepth 100000 in
theorem r8_walk (K G : Nat) (A : Option Addr) (c : Nat) (code : List Int) (w : World) (hr : Kd.C (Kd.int .u8) w A code.length code) (hc : code.length ≤ c) (l : List Int) (s1 s2 u0 u1 u2 v0 v1 v2 : Int) (bs' : List S58) (q1 q2 : Int)
  (h1 : spec_l00From.f code = some (l, s1, s2)) (h2 : spec_l00Src_pick.f l s1 s2 5 = some (u0, u1, u2)) (h3 : spec_l00Src_pick.f l u1 u2 4 = some (v0, v1, v2)) (h4 : r8A K G (wrap64 (1 + u0)) (wrap64 (1 + v0)) [] l v1 v2 = some (bs', q1, q2)) (fs : List S58) (f1 f2 : Int) (h5 : r8B K G (wrap64 (1 + u0)) bs' 0 l q1 q2 = some (fs, f1, f2)) (hln : bs'.length ≤ 1000) :
  Calls Try.prog 37 #[.slice A code.length c] w fun e w' => ∃ v1_ : Value, e = .returned (.agg #[.int .i64 (wrap64 (1 + u0)), v1_]) ∧ Kd.S k58 58 w' w.heap.size (fun _ => True) v1_ fs ∧ Below w.heap.size w w' := by
 have HR := Aside0.mk hr
 have HC := Aside0.mk hc
 have H1 := Aside0.mk h1
 have H2 := Aside0.mk h2
 have H3 := Aside0.mk h3
 have H4 := Aside0.mk h4
 have H5 := Aside0.mk h5
 have HB := Aside0.mk (below_alloc (Below.refl w.heap.size w) (.cells #[.int .i64 0, .slice none 0 0] 29))
 have RS := Aside0.mk (heap_alloc_new w (.cells #[.int .i64 0, .slice none 0 0] 29))
 clear hr hc h1 h2 h3 h4 h5
 go_enter Try.func37, Try.ntmps37
 go_wp2_with (first | (go_at_call 77; refine (spec_l00From.calls A c code l s1 s2 w _ HB.out HR.out HC.out H1.out).mono ?_; rintro e w1 ⟨gs, rfl, hi, hb, hb2⟩; have SI := Aside0.mk hi; have B1 := Aside0.mk hb; have RS1 := Aside0.mk (blk_bel RS.out hb2); clear hi hb hb2; have m1 : True := trivial) | (go_at_call 78; have _g := m1; clear _g m1; refine (spec_l00Src_pick.calls gs l s1 s2 5 u0 u1 u2 w w1 SI.out B1.out H2.out).mono ?_; rintro e w2 ⟨rfl, hi, hb, hk⟩; have SI2 := Aside0.mk hi; have B2 := Aside0.mk hb; have RS2 := Aside0.mk ((hk.2 _ (blk_lt RS1.out) (fun e => SI.out.ne_blk RS1.out (by decide) e.symm) (by simp)).trans RS1.out); clear hi hb hk; have z2 : (w2.alloc (.cells #[] 58)).heap.size = w2.heap.size + 1 := (by simp); have hob := heap_alloc_new (w2.alloc (.cells #[] 58)) (.cells #[.int .i64 (wrap64 (1 + u0)), .slice (some ⟨w2.heap.size, 0, none⟩) 0 0] 29); rw [z2] at hob; have ST0 : Aside0 (R8St w gs (w2.heap.size + 1) l u1 u2 (wrap64 (1 + u0)) (some ⟨w2.heap.size, 0, none⟩) 0 [] ((w2.alloc (.cells #[] 58)).alloc (.cells #[.int .i64 (wrap64 (1 + u0)), .slice (some ⟨w2.heap.size, 0, none⟩) 0 0] 29))) := ⟨⟨(SI2.out.alloc _).alloc _, (B2.out.alloc B2.out.size _).alloc (B2.out.alloc B2.out.size _).size _, blk_alloc (blk_alloc RS2.out _) _, by have := blk_lt RS2.out; omega, by have := blk_lt RS2.out; omega, hob, emptyS _ trivial (by have := blk_lt RS2.out; omega) (blk_alloc (heap_alloc_new w2 _) _)⟩⟩; clear hob z2; have m2 : True := trivial) | (go_at_call 78; have _g := m2; clear _g m2; refine (spec_l00Src_pick.calls gs l u1 u2 4 v0 v1 v2 w _ ST0.out.src ST0.out.bel H3.out).mono ?_; rintro e w3 ⟨rfl, hi, hb, hk⟩; have ST := Aside0.mk (ST0.out.pick hi hb hk); clear hi hb hk ST0))
 obtain ⟨lim, hlim⟩ : ∃ lim, lim = wrap64 (1 + u0) := ⟨_, rfl⟩
 obtain ⟨gO, hgO⟩ : ∃ gO, gO = w2.heap.size + 1 := ⟨_, rfl⟩
 obtain ⟨x0, hx0⟩ : ∃ x0, x0 = wrap64 (1 + v0) := ⟨_, rfl⟩
 rw [← hlim, ← hgO] at ST
 rw [← hlim, ← hx0] at H4
 rw [← hlim] at H5
 try rw [← hlim]
 try rw [← hgO]
 try rw [← hx0]
 have LIM := Aside0.mk hlim
 clear hlim hgO hx0 B1 B2 SI SI2 RS RS1 RS2 HB HR HC H1 H2 H3
 go_loopg [5] G (fun kq v5 wr => ∃ (x : Int) (bs : List S58) (Ab : Option Addr) (cb : Nat) (y1 y2 : Int), v5 = .int .i64 x ∧ Aside0 (r8A K kq lim x bs l y1 y2 = some (bs', q1, q2)) ∧ Aside0 (R8St w gs gO l y1 y2 lim Ab cb bs wr))
 case atStart => exact ⟨x0, [], _, _, v1, v2, rfl, H4, ST⟩
 case round =>
  clear H4 ST
  obtain ⟨x, bs, Ab, cb, y1, y2, rfl, HA, ST⟩ := hrel
  cases gk with
  | zero => exact absurd HA.out (by simp [r8A])
  | succ k1 =>
   have H := HA.out
   clear HA
   simp only [r8A] at H
   by_cases c0 : 0 < x
   ·rw [if_pos c0] at H
    obtain ⟨⟨t0, t1, t2⟩, hT, H⟩ := Option.bind_eq_some_iff.mp H
    obtain ⟨⟨p0, p1, p2⟩, hU, H⟩ := Option.bind_eq_some_iff.mp H
    obtain ⟨⟨a0, a1, a2⟩, hA, H⟩ := Option.bind_eq_some_iff.mp H
    have HT := Aside0.mk hT
    have HU := Aside0.mk hU
    have HADD := Aside0.mk hA
    have HN := Aside0.mk H
    clear hT hU hA H
    go_upto_region 7 with (go_at_call 79; refine (spec_l00Src_text.calls gs l y1 y2 (some ⟨wr.heap.size, 0, none⟩) 5 toks8 t0 t1 t2 w _ ?sI ?sB ?sC (by decide) ?sF HT.out).mono ?_; (case sI => exact (ST.out.alloc _).src); (case sB => exact (ST.out.alloc _).bel); (case sC => exact strC wr toks8 (by decide)); (case sF => rintro ad ⟨⟩ _; have := ST.out.src.lt; show wr.heap.size ≠ gs; omega); rintro e u0 ⟨rfl, hi, hb, hk⟩; have ST_ := Aside0.mk ((ST.out.alloc _).pick hi hb hk); clear ST hi hb hk; have ST := ST_; clear ST_; have hs0 : u0.cell? ⟨gO, 0, none⟩ = some (.int .i64 lim) := (blk_cell ST.out.out 0).trans rfl; have hs1 : u0.cell? ⟨gO, 1, none⟩ = some (.slice Ab bs.length cb) := (blk_cell ST.out.out 1).trans rfl)
    go_cut [7, 8] (fun v7 v8 wc => ∃ (gN : Nat) (An : Option Addr) (cn : Nat), v7 = .pointer (some ⟨gN, 0, none⟩) ∧ v8 = .bool a2 ∧ Aside0 (R8St w gs gO l p1 p2 lim Ab cb bs wc) ∧ Aside0 (wc.heap[gN]? = some (.cells #[.int .i64 a0, .slice An a1.length cn] 29 (0, 0))) ∧ Aside0 (Kd.S k58 58 wc w.heap.size (fun _ => True) (.slice An a1.length cn) a1) ∧ Aside0 (gO < gN))
    case first =>
     go_region_held3 (fun w' => w'.cell? ⟨gO, 0, none⟩ = some (.int .i64 lim) ∧ w'.cell? ⟨gO, 1, none⟩ = some (.slice Ab bs.length cb))
      (first | (go_keep; done) | exact ⟨hs0, hs1⟩)
      (first | (go_at_call 78; refine (spec_l00Src_pick.calls gs l t1 t2 4 p0 p1 p2 w _ ?sI ?sB HU.out).mono ?_; (case sI => exact (show R8St w gs gO l t1 t2 lim Ab cb bs _ from (by repeat (first | (with_reducible first | exact ST.out | apply R8St.alloc | apply R8St.drew) | exact ST.out))).src); (case sB => exact (show R8St w gs gO l t1 t2 lim Ab cb bs _ from (by repeat (first | (with_reducible first | exact ST.out | apply R8St.alloc | apply R8St.drew) | exact ST.out))).bel); (try clear hs0 hs1); (try clear hz0 hz1 hf0 hf1); rintro e u1 ⟨rfl, hi, hb, hk⟩; (first | (with_reducible have ZB_ := Aside0.mk (made_pick1 (show R8St w gs gO l t1 t2 lim Ab cb bs _ from (by repeat (first | (with_reducible first | exact ST.out | apply R8St.alloc | apply R8St.drew) | exact ST.out))) hk); have ZB := ZB_; clear ZB_) | (with_reducible have ZB_ := Aside0.mk (made_pick2 (show R8St w gs gO l t1 t2 lim Ab cb bs _ from (by repeat (first | (with_reducible first | exact ST.out | apply R8St.alloc | apply R8St.drew) | exact ST.out))) hk); have ZB := ZB_; clear ZB_) | skip); with_reducible have ST_ := Aside0.mk (R8St.pick (show R8St w gs gO l t1 t2 lim Ab cb bs _ from (by repeat (first | (with_reducible first | exact ST.out | apply R8St.alloc | apply R8St.drew) | exact ST.out))) hi hb hk); clear ST; have ST := ST_; clear ST_; clear hi hb hk; have hs0 : u1.cell? ⟨gO, 0, none⟩ = some (.int .i64 lim) := (blk_cell ST.out.out 0).trans rfl; have hs1 : u1.cell? ⟨gO, 1, none⟩ = some (.slice Ab bs.length cb) := (blk_cell ST.out.out 1).trans rfl; (first | (have hz0 : u1.cell? _ = some (.int .i64 0) := (blk_cell ZB.out.1 0).trans rfl; have hz1 : u1.cell? _ = some (.slice none 0 0) := (blk_cell ZB.out.1 1).trans rfl; have hf0 := blk_frozen ZB.out.1 0; have hf1 := blk_frozen ZB.out.1 1) | skip)) | (go_at_call 80; (try simp only [i64_w]); refine (addS K lim Ab cb bs t0 (wrap64 (1 + p0)) a0 a1 a2 _ ?sC ?sL HADD.out).mono ?_; (case sC => exact (Kd.S_reads' (show R8St w gs gO l p1 p2 lim Ab cb bs _ from (by repeat (first | (with_reducible first | exact ST.out | apply R8St.alloc | apply R8St.drew) | exact ST.out))).own).2.2); (case sL => exact (Kd.S_reads' ST.out.own).2.1); (try clear hs0 hs1); (try clear hz0 hz1 hf0 hf1); rintro e u2 ⟨v, rfl, hs, hb⟩; obtain ⟨An, cn, en⟩ := Kd.S_slice hs; subst en; (first | (with_reducible have ZB_ := Aside0.mk (made_bel1 (show R8St w gs gO l p1 p2 lim Ab cb bs _ from (by repeat (first | (with_reducible first | exact ST.out | apply R8St.alloc | apply R8St.drew) | exact ST.out))) hb); have ZB := ZB_; clear ZB_) | (with_reducible have ZB_ := Aside0.mk (Made.bel ZB.out hb); clear ZB; have ZB := ZB_; clear ZB_) | skip); with_reducible have SN := Aside0.mk (lowS2 hs (show R8St w gs gO l p1 p2 lim Ab cb bs _ from (by repeat (first | (with_reducible first | exact ST.out | apply R8St.alloc | apply R8St.drew) | exact ST.out)))); with_reducible have ST_ := Aside0.mk (R8St.below (show R8St w gs gO l p1 p2 lim Ab cb bs _ from (by repeat (first | (with_reducible first | exact ST.out | apply R8St.alloc | apply R8St.drew) | exact ST.out))) hb); clear ST; have ST := ST_; clear ST_; clear hs hb; have hs0 : u2.cell? ⟨gO, 0, none⟩ = some (.int .i64 lim) := (blk_cell ST.out.out 0).trans rfl; have hs1 : u2.cell? ⟨gO, 1, none⟩ = some (.slice Ab bs.length cb) := (blk_cell ST.out.out 1).trans rfl; (first | (have hz0 : u2.cell? _ = some (.int .i64 0) := (blk_cell ZB.out.1 0).trans rfl; have hz1 : u2.cell? _ = some (.slice none 0 0) := (blk_cell ZB.out.1 1).trans rfl; have hf0 := blk_frozen ZB.out.1 0; have hf1 := blk_frozen ZB.out.1 1) | skip); (first | (have ne0 : gO ≠ _ := Nat.ne_of_lt ZB.out.2.2; have ne2 := ne0.symm) | skip)))
     all_goals
      (go_wp2; go_meet)
     all_goals first
      | exact ⟨u2.heap.size, An, cn, rfl, rfl, ⟨ST.out.alloc _⟩, ⟨heap_alloc_new _ _⟩, ⟨Kd.S_alloc SN.out _⟩, ⟨blk_lt ST.out.out⟩⟩
      | exact ⟨_, An, cn, rfl, rfl, ⟨(ST.out.far ZB.out.1 ZB.out.2.1 ZB.out.2.2 0 (.int .i64 a0)).far (cs := #[.int .i64 a0, .slice none 0 0]) (blk_put ZB.out.1 0 (.int .i64 a0) rfl) ZB.out.2.1 ZB.out.2.2 1 (.slice An a1.length cn)⟩, ⟨by refine blk_put (cs := #[.int .i64 a0, .slice none 0 0]) ?_ 1 _ rfl; refine blk_put (cs := #[.int .i64 0, .slice none 0 0]) ?_ 0 _ rfl; exact ZB.out.1⟩, ⟨Kd.S_mono (Kd.S_far (p := ⟨_, 1, none⟩) (Kd.S_far (p := ⟨_, 0, none⟩) (Kd.S_types SN.out ZB.out.1 (by decide)) (fun _ hk => hk.2) (.int .i64 a0)) (fun _ hk => hk.2) (.slice An a1.length cn)) (fun _ _ => trivial)⟩, ⟨ZB.out.2.2⟩⟩
    case rest =>
     rename World => wc
     clear ST hs0 hs1
     obtain ⟨gN, An, cn, rfl, rfl, ST, KN, SN, HGN⟩ := hcut
     have hn0 : wc.cell? ⟨gN, 0, none⟩ = some (.int .i64 a0) := (blk_cell KN.out 0).trans rfl
     have hn1 : wc.cell? ⟨gN, 1, none⟩ = some (.slice An a1.length cn) := (blk_cell KN.out 1).trans rfl
     have ho0 : wc.cell? ⟨gO, 0, none⟩ = some (.int .i64 lim) := (blk_cell ST.out.out 0).trans rfl
     have ho1 : wc.cell? ⟨gO, 1, none⟩ = some (.slice Ab bs.length cb) := (blk_cell ST.out.out 1).trans rfl
     have hof0 := blk_frozen ST.out.out 0
     have hof1 := blk_frozen ST.out.out 1
     cases a2 with
     | false =>
      have HN2 : Aside0 (r8A K k1 lim (wrap64 (x - 1)) bs l p1 p2 = some (bs', q1, q2)) := ⟨by have h := HN.out; rw [if_neg (by simp)] at h; exact h⟩
      go_wp2
      go_roundg k1
      all_goals (first | omega | exact ⟨wrap64 (x - 1), bs, Ab, cb, p1, p2, by first | rfl | simp, HN2, ST⟩)
     | true =>
      have HN2 : Aside0 (r8A K k1 lim (wrap64 (x - 1)) a1 l p1 p2 = some (bs', q1, q2)) := ⟨by have h := HN.out; rw [if_pos rfl] at h; exact h⟩
      obtain rfl := addF_lim HADD.out
      have ST2 : Aside0 (R8St w gs gO l p1 p2 a0 An cn a1 ((wc.setCell ⟨gO, 0, none⟩ (.int .i64 a0)).setCell ⟨gO, 1, none⟩ (.slice An a1.length cn))) :=
       ⟨⟨(ST.out.src.far (p := ⟨gO, 0, none⟩) (ST.out.src.ne_blk ST.out.out (by decide)) _).far (p := ⟨gO, 1, none⟩) (ST.out.src.ne_blk ST.out.out (by decide)) _, below_set (below_set ST.out.bel ST.out.ge) ST.out.ge,
        (Below.heap_setCell _ ⟨gO, 1, none⟩ _ _ (Ne.symm ST.out.ne)).trans ((Below.heap_setCell _ ⟨gO, 0, none⟩ _ _ (Ne.symm ST.out.ne)).trans ST.out.res), ST.out.ne, ST.out.ge,
        by refine blk_put (cs := #[.int .i64 a0, .slice Ab bs.length cb]) ?_ 1 _ rfl; refine blk_put (cs := #[.int .i64 a0, .slice Ab bs.length cb]) ?_ 0 _ rfl; exact ST.out.out,
        Kd.S_mono (Kd.S_far (p := ⟨gO, 1, none⟩) (Kd.S_far (p := ⟨gO, 0, none⟩) (Kd.S_types SN.out ST.out.out (by decide)) (fun _ hk => hk.2) _) (fun _ hk => hk.2) _) (fun _ _ => trivial)⟩⟩
      go_wp2
      go_roundg k1
      all_goals (first | omega | exact ⟨wrap64 (x - 1), a1, An, cn, p1, p2, by first | rfl | simp, HN2, ST2⟩)
   ·rw [if_neg c0] at H
    obtain ⟨rfl, rfl, rfl⟩ : bs = bs' ∧ y1 = q1 ∧ y2 = q2 := by simpa using H
    clear H
    go_wp2
    go_loopg [9] G (fun kq v9 wr => ∃ (i : Nat) (bs : List S58) (Ab : Option Addr) (cb : Nat) (y1 y2 : Int), v9 = .int .i64 i ∧ bs.length ≤ 1000 ∧ i ≤ bs.length ∧ Aside0 (r8B K kq lim bs i l y1 y2 = some (fs, f1, f2)) ∧ Aside0 (R8St w gs gO l y1 y2 lim Ab cb bs wr))
    case atStart => exact ⟨0, _, _, _, _, _, rfl, hln, Nat.zero_le _, H5, ST⟩
    case round =>
     clear H5 ST
     obtain ⟨i, bs, Ab, cb, y1, y2, rfl, hln, hi, HA, ST⟩ := hrel
     have ho0 : wr.cell? ⟨gO, 0, none⟩ = some (.int .i64 lim) := (blk_cell ST.out.out 0).trans rfl
     have ho1 : wr.cell? ⟨gO, 1, none⟩ = some (.slice Ab bs.length cb) := (blk_cell ST.out.out 1).trans rfl
     cases gk with
     | zero => exact absurd HA.out (by simp [r8B])
     | succ k1 =>
      have H := HA.out
      clear HA
      simp only [r8B] at H
      by_cases hlt : i < bs.length
      ·have hltz : (i : Int) < (bs.length : Int) := by omega
       rw [dif_pos hlt] at H
       obtain ⟨⟨n0, n1, n2⟩, hN, H⟩ := Option.bind_eq_some_iff.mp H
       obtain ⟨⟨hh, j1, j2⟩, hI, H⟩ := Option.bind_eq_some_iff.mp H
       obtain ⟨⟨m0, m1, m2⟩, hM, H⟩ := Option.bind_eq_some_iff.mp H
       have HNp := Aside0.mk hN
       have HIp := Aside0.mk hI
       have HMp := Aside0.mk hM
       have HNx := Aside0.mk H
       clear hN hI hM H
       go_wp2_with (go_at_call 78; refine (spec_l00Src_pick.calls gs l y1 y2 (wrap64 (lim + 1)) n0 n1 n2 w wr ST.out.src ST.out.bel HNp.out).mono ?_; clear ho0 ho1; rintro e u1 ⟨rfl, hi, hb, hk⟩; have ST_ := Aside0.mk (ST.out.pick hi hb hk); clear ST hi hb hk; have ST := ST_; clear ST_)
       have e58 : (⟨bs[i].f0, bs[i].f1, bs[i].f2, bs[i].f3⟩ : S58) = bs[i] := rfl
       have ST0 : Aside0 (R8St w gs gO l n1 n2 lim Ab cb (bs.set i ⟨bs[i].f0, bs[i].f1, bs[i].f2, bs[i].f3⟩) u1) := ⟨by rw [e58, List.set_getElem_self]; exact ST.out⟩
       obtain ⟨tok0, htok0⟩ : ∃ t, t = bs[i].f0 := ⟨_, rfl⟩
       obtain ⟨mem0, hmem0⟩ : ∃ t, t = bs[i].f1 := ⟨_, rfl⟩
       obtain ⟨mis0, hmis0⟩ : ∃ t, t = bs[i].f2 := ⟨_, rfl⟩
       obtain ⟨held0, hheld0⟩ : ∃ t, t = bs[i].f3 := ⟨_, rfl⟩
       rw [← htok0, ← hmem0, ← hmis0, ← hheld0] at ST0
       rw [← hheld0] at HIp
       clear e58 ST
       go_loopg [10] K (fun kq v10 wr2 => ∃ (xx : Int) (held : List S60) (z1 z2 : Int), v10 = .int .i64 xx ∧ Aside0 (r8In kq held xx l z1 z2 = some (hh, j1, j2)) ∧ Aside0 (R8St w gs gO l z1 z2 lim Ab cb (bs.set i (⟨tok0, mem0, mis0, held⟩ : S58)) wr2))
       case atStart => exact ⟨n0, held0, _, _, rfl, HIp, ST0⟩
       case round =>
        clear ST0 HIp
        rename World => wr2
        obtain ⟨xx, held, z1, z2, rfl, HA, ST⟩ := hrel
        cases gk with
        | zero => exact absurd HA.out (by simp [r8In])
        | succ k2 =>
         have H := HA.out
         clear HA
         simp only [r8In] at H
         by_cases c1 : 0 < xx
         ·rw [if_pos c1] at H
          obtain ⟨⟨p0, p1, p2⟩, hU, H⟩ := Option.bind_eq_some_iff.mp H
          obtain ⟨⟨k0, k3, k4⟩, hV, H⟩ := Option.bind_eq_some_iff.mp H
          by_cases hhl : held.length ≤ 900
          case neg => rw [if_neg hhl] at H; cases H
          rw [if_pos hhl] at H
          have HU := Aside0.mk hU
          have HV := Aside0.mk hV
          have HIx := Aside0.mk H
          clear hU hV H
          have g1 : True := trivial
          go_upto_region 18 with (first | (go_at_call 78; have _g := g1; clear _g g1; refine (spec_l00Src_pick.calls gs l z1 z2 4 p0 p1 p2 w wr2 ST.out.src ST.out.bel HU.out).mono ?_; rintro e u2 ⟨rfl, hi, hb, hk⟩; have ST1 := Aside0.mk (ST.out.pick hi hb hk); clear ST hi hb hk; have g2 : True := trivial) | (go_at_call 78; have _g := g2; clear _g g2; have STa := Aside0.mk (ST1.out.alloc (.cells #[.int .i64 (wrap64 (1 + p0)), .int .i64 0] 60)); have SPa := Aside0.mk (Kd.S_alloc (Kd.S_mono (Kd.S_elderB ST1.out.own u2.heap.size (Nat.le_refl _)) (ok' := fun k => k ≠ u2.heap.size) (fun k h => h.2)) (.cells #[.int .i64 (wrap64 (1 + p0)), .int .i64 0] 60)); refine (spec_l00Src_pick.calls gs l p1 p2 50 k0 k3 k4 w _ STa.out.src STa.out.bel HV.out).mono ?_; rintro e u3 ⟨rfl, hi, hb, hk⟩; have STb := Aside0.mk (STa.out.pick hi hb hk); have HGP : gO < u2.heap.size := blk_lt ST1.out.out; have SPb := Aside0.mk (Kd.S_mono (Kd.S_keep (STa.out.src.apartS SPa.out (by decide)) hk (fun _ h => h.2)) (ok' := fun k => k ≠ u2.heap.size) (fun _ h => h.1)); have PB := Aside0.mk ((hk.2 u2.heap.size (by simp) (fun e => by have := ST1.out.src.lt; omega) (by simp)).trans (heap_alloc_new u2 (.cells #[.int .i64 (wrap64 (1 + p0)), .int .i64 0] 60))); clear hi hb hk STa SPa ST1; have hc1 : u3.cell? ⟨u2.heap.size, 1, none⟩ = some (.int .i64 0) := (blk_cell PB.out 1).trans rfl; have hcf1 := blk_frozen PB.out 1))
          obtain ⟨P, hP⟩ : ∃ P, P = u2.heap.size := ⟨_, rfl⟩
          obtain ⟨pr, hpr⟩ : ∃ pr : S60, pr = ⟨wrap64 (1 + p0), wrap64 (1 + k0)⟩ := ⟨_, rfl⟩
          have hpr0 : pr.f0 = wrap64 (1 + p0) := by rw [hpr]
          have hpr1 : pr.f1 = wrap64 (1 + k0) := by rw [hpr]
          rw [← hpr] at HIx
          rw [← hP] at SPb PB hc1 hcf1 ⊢
          rw [← hpr0] at PB
          rw [← hpr1]
          obtain ⟨wP, hwP⟩ : ∃ wP, wP = u3.setCell ⟨P, 1, none⟩ (.int .i64 pr.f1) := ⟨_, rfl⟩
          have PBp : Aside0 (wP.heap[P]? = some (.cells #[.int .i64 pr.f0, .int .i64 pr.f1] 60 (0, 0))) := ⟨by rw [hwP]; exact blk_put PB.out 1 _ rfl⟩
          have SPp : Aside0 (Kd.S k58 58 wP w.heap.size (fun k => k ≠ P) (.slice Ab (bs.set i (⟨tok0, mem0, mis0, held⟩ : S58)).length cb) (bs.set i (⟨tok0, mem0, mis0, held⟩ : S58))) := ⟨by rw [hwP]; exact Kd.S_far (p := ⟨P, 1, none⟩) SPb.out (fun k h => h) _⟩
          have SRp : Aside0 (IsS120 w wP gs l k3 k4) := ⟨by rw [hwP]; exact STb.out.src.far (p := ⟨P, 1, none⟩) (STb.out.src.ne_blk PB.out (by decide)) _⟩
          have BLp : Aside0 (Below w.heap.size w wP) := ⟨by rw [hwP]; exact below_set STb.out.bel (by rw [hP]; exact Nat.le_trans STb.out.ge (Nat.le_of_lt (by have := STb.out.out; have h2 := HGP; exact h2)))⟩
          have RSp : Aside0 (wP.heap[w.heap.size]? = some (.cells #[.int .i64 0, .slice none 0 0] 29 (0, 0))) := ⟨by rw [hwP]; exact (Below.heap_setCell _ ⟨P, 1, none⟩ _ _ (blk_ne STb.out.res PB.out (by decide))).trans STb.out.res⟩
          have OTp : Aside0 (wP.heap[gO]? = some (.cells #[.int .i64 lim, .slice Ab (bs.set i (⟨tok0, mem0, mis0, held⟩ : S58)).length cb] 29 (0, 0))) := ⟨by rw [hwP]; exact (Below.heap_setCell _ ⟨P, 1, none⟩ _ _ (blk_ne STb.out.out PB.out (by decide))).trans STb.out.out⟩
          have NEO := STb.out.ne
          have GEO := STb.out.ge
          rw [← hwP]
          clear hwP hP hpr hpr0 hpr1 SPb PB hc1 hcf1 STb
          have hsl : (bs.set i (⟨tok0, mem0, mis0, held⟩ : S58)).length = bs.length := List.length_set
          obtain ⟨gb, cap, eb, hgb, hgb2, cellsb, hcb⟩ := Kd.S_form SPp.out (by rw [hsl]; omega)
          injection eb with eA _ eC
          subst eA
          subst eC
          obtain ⟨oki, cE, hcl, hM, hcc, hfr, hoki, hH⟩ := Kd.S_elem SPp.out z58 (i : Int) (by omega) (by rw [hsl]; omega)
          have hgd : (bs.set i (⟨tok0, mem0, mis0, held⟩ : S58)).getD i z58 = (⟨tok0, mem0, mis0, held⟩ : S58) := by rw [List.getD_eq_getElem?_getD, List.getElem?_set_self hlt]; rfl
          rw [Int.toNat_natCast, hgd] at hM
          rw [Int.toNat_natCast] at hcc hfr
          obtain ⟨v3, rfl, hR⟩ := k58_openM hM
          obtain ⟨A3, c3, e3⟩ := Kd.R_slice hR
          subst e3
          have X3 : wP.cell? ⟨gb, i * 4 + 3, none⟩ = some (.slice A3 held.length c3) := hcc 3 _ rfl
          have hO1 : wP.cell? ⟨gO, 1, none⟩ = some (.slice (some ⟨gb, 0, none⟩) bs.length cb) := by have h := (blk_cell OTp.out 1).trans rfl; rw [hsl] at h; exact h
          have hO1a : (wP.alloc (.cells #[.int .i64 pr.f0, .int .i64 pr.f1] 60)).cell? ⟨gO, 1, none⟩ = some (.slice (some ⟨gb, 0, none⟩) bs.length cb) := by have h := (blk_cell (blk_alloc OTp.out (.cells #[.int .i64 pr.f0, .int .i64 pr.f1] 60)) 1).trans rfl; rw [hsl] at h; exact h
          have hlp0 : wP.cell? ⟨P, 0, none⟩ = some (.int .i64 pr.f0) := (blk_cell PBp.out 0).trans rfl
          have hlp1 : wP.cell? ⟨P, 1, none⟩ = some (.int .i64 pr.f1) := (blk_cell PBp.out 1).trans rfl
          have hla : (wP.alloc (.cells #[.int .i64 pr.f0, .int .i64 pr.f1] 60)).cell? ⟨gb, i * 4 + 3, none⟩ = some (.slice A3 held.length c3) := (blk_cell (blk_alloc hcb (.cells #[.int .i64 pr.f0, .int .i64 pr.f1] 60)) _).trans ((blk_cell hcb _).symm.trans X3)
          obtain ⟨ok7, hok7⟩ : ∃ ok7 : Nat → Prop, ok7 = fun k => oki k ∨ k ≠ P ∧ wP.heap.size ≤ k := ⟨_, rfl⟩
          have PLT := blk_lt PBp.out
          have hz5 : (wP.alloc (.cells #[.int .i64 pr.f0, .int .i64 pr.f1] 60)).drew.heap.size = wP.heap.size + 1 := by simp
          have H7 : Aside0 (Kd.H k58 58 (wP.alloc (.cells #[.int .i64 pr.f0, .int .i64 pr.f1] 60)).drew w.heap.size (fun k => k ≠ P) (.slice (some ⟨gb, 0, none⟩) (bs.set i (⟨tok0, mem0, mis0, held⟩ : S58)).length cb) (bs.set i (⟨tok0, mem0, mis0, held⟩ : S58)) i ok7 [.string tok0, .int .i64 mem0, .int .i64 mis0, .slice A3 held.length c3]) := ⟨by rw [hok7]; exact Kd.H_drew (Kd.H_alloc (Kd.H_widen hH) _)⟩
          have R7 : Aside0 (Kd.R k60 60 (wP.alloc (.cells #[.int .i64 pr.f0, .int .i64 pr.f1] 60)).drew w.heap.size ok7 (.slice A3 held.length c3) held) := ⟨by rw [hok7]; exact Kd.R_mono (Kd.R_drew (Kd.R_alloc hR _)) (fun k h => .inl h)⟩
          have CB7 : Aside0 ((wP.alloc (.cells #[.int .i64 pr.f0, .int .i64 pr.f1] 60)).drew.heap[gb]? = some (.cells cellsb 58 (0, 0))) := ⟨blk_alloc hcb (.cells #[.int .i64 pr.f0, .int .i64 pr.f1] 60)⟩
          have LIT : Aside0 (Kd.R k60 60 (wP.alloc (.cells #[.int .i64 pr.f0, .int .i64 pr.f1] 60)).drew w.heap.size (fun _ => True) (.slice (some ⟨wP.heap.size, 0, none⟩) 1 1) [pr]) := ⟨mkP (l := [pr]) (cap := 1) (cur := #[.int .i64 pr.f0, .int .i64 pr.f1]) trivial BLp.out.size (heap_alloc_new wP _) (Nat.le_refl _) (by decide) rfl rfl⟩
          have BA := Aside0.mk (BLp.out.alloc BLp.out.size (.cells #[.int .i64 pr.f0, .int .i64 pr.f1] 60)).drew
          have F7 : Aside0 (∀ k, (wP.alloc (.cells #[.int .i64 pr.f0, .int .i64 pr.f1] 60)).drew.heap.size ≤ k → ok7 k) := ⟨by rw [hok7, hz5]; exact fun k h => .inr ⟨by omega, by omega⟩⟩
          have SZA : w.heap.size ≤ (wP.alloc (.cells #[.int .i64 pr.f0, .int .i64 pr.f1] 60)).drew.heap.size := BA.out.size
          have OKI := Aside0.mk hoki
          clear hok7 hR hM hcc hfr hcl hH hoki hcb SPp hz5 PLT
          go_wp2_with fail
          go_region_law (refine Kd.R_append_rows_step k60 (w0 := w) w.heap.size (by simp [Region.wanted]) (.tmp 72) (.tmp 74) 52 60 (.agg #[(.int .i64 0), (.int .i64 0)]) 16 rfl Try.underlying52 info60 rfl (by decide) (by omega) (.slice A3 held.length c3) held [pr] _ _ _ ok7 (fun _ => False) (by simp [Act.eval, Act.put]) (by simp [Act.eval, Act.put]; first | done | rfl) R7.out (Kd.R_reads' LIT.out).2.2 (fun _ _ h => h) (fun _ h => h.elim) F7.out BA.out SZA (by simp only [List.length_cons, List.length_nil]; omega) ?_; intro v6 w6 ho hb hg _; obtain ⟨A6, c6, e6⟩ := Kd.R_slice ho; subst e6; have R6 := Aside0.mk ho; have B6 := Aside0.mk hb; have G6 := Aside0.mk hg; have CB6 := Aside0.mk (blk_grown CB7.out hg (Kd.R_ne R7.out CB7.out (by decide))); have hy3 : w6.cell? ⟨gb, i * 4 + 3, none⟩ = some (.slice A3 held.length c3) := (blk_cell CB6.out _).trans ((blk_cell CB7.out _).symm.trans hla); have hyf3 := blk_frozen CB6.out (i * 4 + 3); have OT6 := Aside0.mk (blk_grown (show (wP.alloc (.cells #[.int .i64 pr.f0, .int .i64 pr.f1] 60)).drew.heap[gO]? = _ from blk_alloc OTp.out (.cells #[.int .i64 pr.f0, .int .i64 pr.f1] 60)) hg (Kd.R_ne R7.out (show (wP.alloc (.cells #[.int .i64 pr.f0, .int .i64 pr.f1] 60)).drew.heap[gO]? = _ from blk_alloc OTp.out (.cells #[.int .i64 pr.f0, .int .i64 pr.f1] 60)) (by decide))); have RS6 := Aside0.mk (blk_grown (show (wP.alloc (.cells #[.int .i64 pr.f0, .int .i64 pr.f1] 60)).drew.heap[w.heap.size]? = _ from blk_alloc RSp.out (.cells #[.int .i64 pr.f0, .int .i64 pr.f1] 60)) hg (Kd.R_ne R7.out (show (wP.alloc (.cells #[.int .i64 pr.f0, .int .i64 pr.f1] 60)).drew.heap[w.heap.size]? = _ from blk_alloc RSp.out (.cells #[.int .i64 pr.f0, .int .i64 pr.f1] 60)) (by decide))); have SR6 := Aside0.mk (((SRp.out.alloc (.cells #[.int .i64 pr.f0, .int .i64 pr.f1] 60)).drew).grown hg (((SRp.out.alloc (.cells #[.int .i64 pr.f0, .int .i64 pr.f1] 60)).drew).own_ne R7.out (by decide))); have hO6 : w6.cell? ⟨gO, 1, none⟩ = some (.slice (some ⟨gb, 0, none⟩) bs.length cb) := (by have h := (blk_cell OT6.out 1).trans rfl; rw [hsl] at h; exact h); clear ho hb hg)
          all_goals
           have HM6 := k58_mkM w6 w.heap.size ok7 (⟨tok0, mem0, mis0, held ++ [pr]⟩ : S58) R6.out
           have HS6 := (Kd.S_seg0 (Kd.H_grown H7.out G6.out (fun k hk => R7.out.1 k hk)) (by omega) (by rw [hsl]; omega) (seg := [.slice A6 (held ++ [pr]).length c6]) (j := 3) (Nat.le_refl 4) (x' := (⟨tok0, mem0, mis0, held ++ [pr]⟩ : S58)) HM6 (fun _ hk => hk)).1
           rw [Int.toNat_natCast, List.set_set] at HS6
           have hsl2 : (bs.set i (⟨tok0, mem0, mis0, held ++ [pr]⟩ : S58)).length = bs.length := List.length_set
           have STn : Aside0 (R8St w gs gO l k3 k4 lim (some ⟨gb, 0, none⟩) cb (bs.set i (⟨tok0, mem0, mis0, held ++ [pr]⟩ : S58)) (w6.setCell ⟨gb, i * 4 + 3, none⟩ (.slice A6 (held ++ [pr]).length c6))) :=
            ⟨⟨SR6.out.far (p := ⟨gb, i * 4 + 3, none⟩) (SR6.out.ne_blk CB6.out (by decide)) _, below_set B6.out hgb, (Below.heap_setCell _ ⟨gb, i * 4 + 3, none⟩ _ _ (blk_ne RS6.out CB6.out (by decide))).trans RS6.out, NEO, GEO,
             (by rw [hsl2, ← hsl]; exact (Below.heap_setCell _ ⟨gb, i * 4 + 3, none⟩ _ _ (blk_ne OT6.out CB6.out (by decide))).trans OT6.out), (by rw [hsl2]; rw [hsl] at HS6; exact Kd.S_mono HS6 (fun _ _ => trivial))⟩⟩
           clear HM6 HS6 H7 R7 LIT R6 B6 G6 hla hlp0 hlp1 hy3 hyf3 hO6 hO1 hO1a X3 SR6 RS6 OT6 CB6 CB7 BA F7 OKI PBp SRp BLp RSp OTp hsl2
           go_wp2
           go_roundg k2
           all_goals (first | omega | exact ⟨wrap64 (xx - 1), held ++ [pr], k3, k4, by first | rfl | simp, HIx, (by first | exact STn | (simp only [List.length_append, List.length_cons, List.length_nil] at STn ⊢; exact STn))⟩)
         ·rw [if_neg c1] at H
          obtain ⟨rfl, rfl, rfl⟩ : held = hh ∧ z1 = j1 ∧ z2 = j2 := by simpa using H
          clear H
          have hsl : (bs.set i (⟨tok0, mem0, mis0, held⟩ : S58)).length = bs.length := List.length_set
          obtain ⟨gb, cap, eb, hgb, hgb2, cellsb, hcb⟩ := Kd.S_form ST.out.own (by rw [hsl]; omega)
          injection eb with eA _ eC
          subst eA
          subst eC
          have hO1 : wr2.cell? ⟨gO, 1, none⟩ = some (.slice (some ⟨gb, 0, none⟩) bs.length cb) := by have h := (blk_cell ST.out.out 1).trans rfl; rw [hsl] at h; exact h
          have hgd : (bs.set i (⟨tok0, mem0, mis0, held⟩ : S58)).getD i z58 = (⟨tok0, mem0, mis0, held⟩ : S58) := by rw [List.getD_eq_getElem?_getD, List.getElem?_set_self hlt]; rfl
          clear hcb cellsb hgb2
          go_wp2_with fail
          go_region_held3 (fun w' => w'.cell? ⟨gO, 1, none⟩ = some (.slice (some ⟨gb, 0, none⟩) bs.length cb))
           (first | (go_keep; done) | exact hO4)
           (first | (go_at_call 78; refine (spec_l00Src_pick.calls gs l z1 z2 3 m0 m1 m2 w _ ST.out.drew.src ST.out.drew.bel HMp.out).mono ?_; rintro e u4 ⟨rfl, hi, hb, hk⟩; have ST4 := Aside0.mk (ST.out.drew.pick hi hb hk); clear hi hb hk; have hO4 : u4.cell? ⟨gO, 1, none⟩ = some (.slice (some ⟨gb, 0, none⟩) bs.length cb) := (by have h := (blk_cell ST4.out.out 1).trans rfl; rw [hsl] at h; exact h); obtain ⟨gb', cap', eb', hgb', hgb2', cellsb', hcb'⟩ := Kd.S_form ST4.out.own (by rw [hsl]; omega); injection eb' with eA' _ eC'; injection eA' with eA'; injection eA' with eA'; subst eA'; have CB4 := Aside0.mk hcb'; have SE4 := Aside0.mk (Kd.S_elem ST4.out.own z58 (i : Int) (by omega) (by rw [hsl]; omega)); obtain ⟨okz, cz, hz1, hz2, hz3, hz4, hz5, hz6⟩ := SE4.out; rw [Int.toNat_natCast, hgd] at hz2; rw [Int.toNat_natCast] at hz3; obtain ⟨vz, rfl, hzR⟩ := k58_openM hz2; have hx2 : u4.cell? ⟨gb, i * 4 + 2, none⟩ = some (.int .i64 mis0) := hz3 2 _ rfl; have hxf := blk_frozen hcb' (i * 4 + 2); have ne4 : gO ≠ gb := blk_ne ST4.out.out hcb' (by decide); have ne5 := ne4.symm; have HZ := Aside0.mk hz6; have HZR := Aside0.mk hzR; clear hz1 hz2 hz3 hz4 hz5 hz6 hzR hcb' SE4))
          all_goals
           have HS6 := (Kd.S_seg0 HZ.out (by omega) (by rw [hsl]; omega) (seg := [.int .i64 m0]) (j := 2) (show 3 ≤ 4 from by decide) (x' := (⟨tok0, mem0, m0, held⟩ : S58)) (k58_mkM _ _ _ (⟨tok0, mem0, m0, held⟩ : S58) HZR.out) (fun _ hk => hk)).1
           rw [Int.toNat_natCast, List.set_set] at HS6
           have hsl2 : (bs.set i (⟨tok0, mem0, m0, held⟩ : S58)).length = bs.length := List.length_set
           have STn : Aside0 (R8St w gs gO l m1 m2 lim (some ⟨gb, 0, none⟩) cb (bs.set i (⟨tok0, mem0, m0, held⟩ : S58)) (u4.setCell ⟨gb, i * 4 + 2, none⟩ (.int .i64 m0))) :=
            ⟨⟨ST4.out.src.far (p := ⟨gb, i * 4 + 2, none⟩) (ST4.out.src.ne_blk CB4.out (by decide)) _, below_set ST4.out.bel hgb, (Below.heap_setCell _ ⟨gb, i * 4 + 2, none⟩ _ _ (blk_ne ST4.out.res CB4.out (by decide))).trans ST4.out.res, ST4.out.ne, ST4.out.ge,
             (by rw [hsl2, ← hsl]; exact (Below.heap_setCell _ ⟨gb, i * 4 + 2, none⟩ _ _ (blk_ne ST4.out.out CB4.out (by decide))).trans ST4.out.out), (by rw [hsl2]; rw [hsl] at HS6; exact Kd.S_mono HS6 (fun _ _ => trivial))⟩⟩
           have HNy : Aside0 (r8B K k1 lim (bs.set i (⟨tok0, mem0, m0, held⟩ : S58)) (i + 1) l m1 m2 = some (fs, f1, f2)) := ⟨by rw [htok0, hmem0]; exact HNx.out⟩
           clear HS6 HZ HZR CB4 ST4 hx2 hxf hO4 ST hO1
           go_wp2
           go_roundg k1
           all_goals (first | omega | exact ⟨i + 1, bs.set i (⟨tok0, mem0, m0, held⟩ : S58), _, cb, m1, m2, by simp, by rw [List.length_set]; exact hln, by rw [List.length_set]; omega, HNy, STn⟩)
      ·rw [dif_neg hlt] at H
       obtain ⟨rfl, rfl, rfl⟩ : bs = fs ∧ y1 = f1 ∧ y2 = f2 := by simpa using H
       clear H
       have hr0 : wr.cell? ⟨w.heap.size, 0, none⟩ = some (.int .i64 0) := (blk_cell ST.out.res 0).trans rfl
       have hr1 : wr.cell? ⟨w.heap.size, 1, none⟩ = some (.slice none 0 0) := (blk_cell ST.out.res 1).trans rfl
       have hrf0 := blk_frozen ST.out.res 0
       have hrf1 := blk_frozen ST.out.res 1
       have hltz : ¬ (i : Int) < (bs.length : Int) := by omega
       go_wp2
       refine bodyPost_ret (results_cell_row rfl _ _ w.heap.size 29 #[.int .i64 lim, .slice Ab bs.length cb] (0, 0) _ rfl (by refine blk_put (cs := #[.int .i64 lim, .slice none 0 0]) ?_ 1 _ rfl; refine blk_put (cs := #[.int .i64 0, .slice none 0 0]) ?_ 0 _ rfl; exact ST.out.res) Try.underlying29 rfl (by kernel_rfl)) rfl ?_
       exact ⟨_, congrArg (fun z => Ending.returned (Value.agg #[.int .i64 z, .slice Ab bs.length cb])) LIM.out, Kd.S_mono (Kd.S_far (p := ⟨w.heap.size, 1, none⟩) (Kd.S_far (p := ⟨w.heap.size, 0, none⟩) (Kd.S_types ST.out.own ST.out.res (by decide)) (fun _ hk => hk.2) _) (fun _ hk => hk.2) _) (fun _ _ => trivial), below_set (below_set ST.out.bel (Nat.le_refl _)) (Nat.le_refl _)⟩
theorem addF_mono (k : Nat) (a0 : Int) (l0 : List S58) (tok : ByteArray) (mem : Int) : LeO (addF k a0 l0 tok mem) (addF (k + 1) a0 l0 tok mem) := by
 unfold addF
 exact LeO.bind (spec_l04Is.mono _ _ _) fun t1 => LeO.ite (LeO.bind (spec_l04Find.mono _ _ _ _) fun t2 => LeO.ite (LeO.refl _) (LeO.bind (spec_l04Copy.mono _ _ _) fun t3 => LeO.ite (LeO.bind (spec_l04Is.mono _ _ _) fun t4 => LeO.refl _) (LeO.refl _))) (LeO.refl _)
theorem r8A_mono (K : Nat) : ∀ (g : Nat) (lim x : Int) (bs : List S58) (l : List Int) (s1 s2 : Int), LeO (r8A K g lim x bs l s1 s2) (r8A (K + 1) (g + 1) lim x bs l s1 s2)
 | 0, _, _, _, _, _, _ => fun r h => by cases h
 | g + 1, lim, x, bs, l, s1, s2 => by
  rw [r8A, r8A]
  exact LeO.ite (LeO.bind (LeO.refl _) fun t => LeO.bind (LeO.refl _) fun u => LeO.bind (addF_mono _ _ _ _ _) fun a => r8A_mono K g _ _ _ _ _ _) (LeO.refl _)
theorem r8In_mono : ∀ (g : Nat) (held : List S60) (x : Int) (l : List Int) (s1 s2 : Int), LeO (r8In g held x l s1 s2) (r8In (g + 1) held x l s1 s2)
 | 0, _, _, _, _, _ => fun r h => by cases h
 | g + 1, held, x, l, s1, s2 => by
  rw [r8In, r8In]
  exact LeO.ite (LeO.bind (LeO.refl _) fun u => LeO.bind (LeO.refl _) fun v => LeO.ite (r8In_mono g _ _ _ _ _) (LeO.refl _)) (LeO.refl _)
theorem r8B_mono (K : Nat) : ∀ (g : Nat) (lim : Int) (bs : List S58) (i : Nat) (l : List Int) (s1 s2 : Int), LeO (r8B K g lim bs i l s1 s2) (r8B (K + 1) (g + 1) lim bs i l s1 s2)
 | 0, _, _, _, _, _, _ => fun r h => by cases h
 | g + 1, lim, bs, i, l, s1, s2 => by
  rw [r8B, r8B]
  by_cases h : i < bs.length
  ·rw [dif_pos h, dif_pos h]
   exact LeO.bind (LeO.refl _) fun n => LeO.bind (r8In_mono K _ _ _ _ _) fun hh => LeO.bind (LeO.refl _) fun m => r8B_mono K g _ _ _ _ _ _
  ·rw [dif_neg h, dif_neg h]; exact LeO.refl _
def spec_R8Post.f (k : Nat) (l0 : List Int) : Option (Int × List S58) :=
 (spec_l00From.f l0).bind fun s => (spec_l00Src_pick.f s.1 s.2.1 s.2.2 5).bind fun u => (spec_l00Src_pick.f s.1 u.2.1 u.2.2 4).bind fun v => (r8A k k (wrap64 (1 + u.1)) (wrap64 (1 + v.1)) [] s.1 v.2.1 v.2.2).bind fun c => if c.1.length ≤ 1000 then ((r8B k k (wrap64 (1 + u.1)) c.1 0 s.1 c.2.1 c.2.2).bind fun d => some (wrap64 (1 + u.1), d.1)) else none
theorem spec_R8Post.mono : ∀ a0 k, LeO (spec_R8Post.f k a0) (spec_R8Post.f (k + 1) a0) := by
 intro a0 k
 unfold spec_R8Post.f
 exact LeO.bind (LeO.refl _) fun s => LeO.bind (LeO.refl _) fun u => LeO.bind (LeO.refl _) fun v => LeO.bind (r8A_mono _ _ _ _ _ _ _ _) fun c => LeO.ite (LeO.bind (r8B_mono _ _ _ _ _ _ _ _) fun d => LeO.refl _) (LeO.refl _)
theorem spec_R8Post.calls (k : Nat) (A0 : Option Addr) (c0 : Nat) (l0 : List Int) (r1 : Int) (r2 : List S58) (w : World) (hr0 : Kd.C (Kd.int .u8) w A0 l0.length l0) (hc0 : l0.length ≤ c0) (h : spec_R8Post.f k l0 = some (r1, r2)) :
  Calls Try.prog 37 #[.slice A0 l0.length c0] w fun e w' => ∃ v1_ : Value, e = .returned (.agg #[.int .i64 r1, v1_]) ∧ Kd.S k58 58 w' w.heap.size (fun _ => True) v1_ r2 ∧ Below w.heap.size w w' := by
 unfold spec_R8Post.f at h
 obtain ⟨⟨l, s1, s2⟩, h1, h⟩ := Option.bind_eq_some_iff.mp h
 obtain ⟨⟨u0, u1, u2⟩, h2, h⟩ := Option.bind_eq_some_iff.mp h
 obtain ⟨⟨v0, v1, v2⟩, h3, h⟩ := Option.bind_eq_some_iff.mp h
 obtain ⟨⟨bs, q1, q2⟩, h4, h⟩ := Option.bind_eq_some_iff.mp h
 by_cases hl : bs.length ≤ 1000
 case neg => rw [if_neg hl] at h; cases h
 rw [if_pos hl] at h
 obtain ⟨⟨fs, f1, f2⟩, h5, h⟩ := Option.bind_eq_some_iff.mp h
 injection h with h
 simp only [Prod.mk.injEq] at h
 obtain ⟨rfl, rfl⟩ := h
 exact r8_walk k k A0 c0 l0 w hr0 hc0 l s1 s2 u0 u1 u2 v0 v1 v2 bs q1 q2 h1 h2 h3 h4 fs f1 f2 h5 hl


/-! ### spec_R8Parcels: function 38 -/
def spec_R8Parcels.l0 : Nat → Int → List (S60) → List Int → Int → Int → Option ((List (S60)))
 | 0, _, _, _, _, _ => none
 | k + 1, x1, x6, x214000, x214001, x214002 => if x1 > 0 then ((spec_l00Src_pick.f x214000 x214001 x214002 4).bind fun bt217 => ((spec_l00Src_pick.f x214000 bt217.2.1 bt217.2.2 50).bind fun bt221 => (if x6.length < 8796093022208 then (spec_R8Parcels.l0 k (wrap64 (x1 - 1)) (x6 ++ [(⟨wrap64 (1 + bt217.1), wrap64 (1 + bt221.1)⟩ : S60)]) x214000 bt221.2.1 bt221.2.2) else (none)))) else (some x6)
def spec_R8Parcels.f (k : Nat) (l0 : List Int) (a1 : Int) : Option ((List (S60))) := (spec_l00From.f l0).bind fun bt210 => (spec_R8Parcels.l0 k a1 (([] : List (S60))) bt210.1 bt210.2.1 bt210.2.2)
theorem spec_R8Parcels.mono_l : ∀ k, (∀ y0 y1 y2 y3 y4, LeO (spec_R8Parcels.l0 k y0 y1 y2 y3 y4) (spec_R8Parcels.l0 (k + 1) y0 y1 y2 y3 y4))
 | 0 => fun _ _ _ _ _ r h => by simp [spec_R8Parcels.l0] at h
 | k + 1 => by
  have ih0 := spec_R8Parcels.mono_l k
  ·intro y0 y1 y2 y3 y4
   unfold spec_R8Parcels.l0
   repeat' first
   | (with_reducible exact ih0 _ _ _ _ _)
   | (with_reducible exact LeO.refl _)
   | (with_reducible exact LeO.none _)
   | (with_reducible refine LeO.ite ?_ ?_)
   | (with_reducible refine LeO.bind ?_ (fun _ => ?_))
   | exact ih0 _ _ _ _ _
   | exact LeO.none _
   | refine LeO.ite ?_ ?_
   | refine LeO.bind ?_ (fun _ => ?_)
theorem spec_R8Parcels.mono : ∀ a0 a1 k, LeO (spec_R8Parcels.f k a0 a1) (spec_R8Parcels.f (k + 1) a0 a1) := by
 intro a0 a1 k
 have ih0 := spec_R8Parcels.mono_l k
 unfold spec_R8Parcels.f
 repeat' first
   | (with_reducible exact ih0 _ _ _ _ _)
   | (with_reducible exact LeO.refl _)
   | (with_reducible exact LeO.none _)
   | (with_reducible refine LeO.ite ?_ ?_)
   | (with_reducible refine LeO.bind ?_ (fun _ => ?_))
   | exact ih0 _ _ _ _ _
   | exact LeO.none _
   | refine LeO.ite ?_ ?_
   | refine LeO.bind ?_ (fun _ => ?_)
set_option maxHeartbeats 8000000 in
set_option maxRecDepth 100000 in
theorem spec_R8Parcels.calls (k : Nat) (A0 : Option Addr) (c0 : Nat) (l0 : List Int) (a1 : Int) (r : List (S60)) (w : World) (hr0 : Kd.C (Kd.int .u8) w A0 l0.length l0) (hc0 : l0.length ≤ c0) (h : spec_R8Parcels.f k l0 a1 = some r) :
  Calls Try.prog 38 #[.slice A0 l0.length c0, .int .i64 a1] w fun e w' => ∃ v0_ : Value, e = .returned (v0_) ∧ Kd.R k60 60 w' w.heap.size (fun _ => True) v0_ r ∧ Below w.heap.size w w' := by
 have hu60 := Try.underlying60
 have HR0 := Aside0.mk hr0
 have HC0 := Aside0.mk hc0
 clear hr0 hc0
 have HB := Aside0.mk (Below.refl w.heap.size w)
 have H : ((spec_l00From.f l0).bind fun bt210 => (spec_R8Parcels.l0 k a1 (([] : List (S60))) bt210.1 bt210.2.1 bt210.2.2)) = some r := h
 clear h
 replace H := Option.bind_eq_some_iff.mp H
 obtain ⟨⟨t210, t211, t212⟩, A30, H⟩ := H
 replace H : (spec_R8Parcels.l0 k a1 (([] : List (S60))) t210 t211 t212) = some r := H
 have A3 := Aside0.mk A30
 clear A30
 obtain ⟨y214, hy214⟩ : ∃ y_ : List (S60), y_ = (([] : List (S60))) := ⟨_, rfl⟩
 replace H : (spec_R8Parcels.l0 k a1 y214 t210 t211 t212) = some r := by first | (rw [hy214]; with_reducible exact H) | (have H2_ := (Option.bind_some _ _).symm.trans H; rw [hy214]; with_reducible exact H2_) | (have H2_ := (Option.bind_some _ _).symm.trans H; with_reducible exact H2_) | with_reducible exact H | (rw [hy214]; exact H) | exact H
 have Ny214 := Aside0.mk hy214
 clear hy214
 have H' := Aside0.mk H
 clear H
 go_enter Try.func38, Try.ntmps38
 go_wp2_with (first | ((with_reducible refine gate_callee (f := 77) rfl ?_); refine goesL_ (some 9) rfl rfl Try.func77 (by kernel_rfl) rfl #[.slice A0 l0.length c0] rfl (by (try simp only [List.map_toArray, List.map_cons, List.map_nil]); first | done | rfl | (simp only [List.length_drop, List.length_take]; rfl)) ?_; (with_reducible refine (spec_l00From.calls _ _ l0 t210 t211 t212 w _ ?side1 ?side2 ?side3 A3.out).mono ?_); (case side1 => repeat (first | (with_reducible first | exact HB.out | apply below_alloc | apply pw_below_drewN | apply below_drew1) | exact HB.out)); (case side2 => exact HR0.out); (case side3 => exact HC0.out); rintro e w4 ⟨g213, rfl, hi, hb, hb2⟩; refine ⟨_, rfl, ?_⟩; have n0_ := Aside0.mk (hb); have n1_ := Aside0.mk (hi); clear HB; have HB := n0_; have HI213 := n1_; clear n0_ n1_; (try clear hb); (try clear hb2); (try clear hk); (try clear hi)) | ((with_reducible refine gate_dst (N := 10) rfl ?_); refine Kd.R_lit k60 _ 60 ?hg (N := 10) ?hd (xs := ([] : List (S60))) (inner := []) (ok := fun _ => True) (okp := fun _ => True) ?hr ?hp (fun _ hk => hk) trivial (Below.refl _ _) (Nat.le_refl _) (by simp) ?_; (case hd => rfl); (case hg => rfl); (case hr => first | (go_simp; done) | (go_simp; rfl)); (case hp => exact (Reps.none _ _)); intro v215 w5 ho6 hb hg_ hnew_; clear hg_ hnew_; (first | rw [← Ny214.out] at ho6 | (simp only [Int.reduceToNat] at ho6; rw [← Ny214.out] at ho6)); have n0_ := Aside0.mk (Kd.R_lower ho6 (below_size (by repeat (first | (with_reducible first | exact HB.out | apply below_alloc | apply pw_below_drewN | apply below_drew1 | refine below_set ?_ (IsS120.ge HI213.out)) | exact HB.out)))); have n1_ := Aside0.mk (IsS120.below (by repeat (first | (with_reducible first | exact HI213.out | apply IsS120.alloc | apply IsS120.drewN | apply IsS120.drew | apply IsS120.set_1 | apply IsS120.set_2) | exact HI213.out)) hb); have n2_ := Aside0.mk (below_step (by repeat (first | (with_reducible first | exact HB.out | apply below_alloc | apply pw_below_drewN | apply below_drew1 | refine below_set ?_ (IsS120.ge HI213.out)) | exact HB.out)) hb); clear HI213; clear HB; have HO216 := n0_; have HI213 := n1_; have HB := n2_; clear n0_ n1_ n2_; clear hb ho6))
 go_loopg [1, 6] k (fun kq v1 v6 w' => ∃ (x1_1 : Int) (x6_1 : List (S60)) (x214001_1 : Int) (x214002_1 : Int), v1 = .int .i64 x1_1 ∧ Aside0 (spec_R8Parcels.l0 kq x1_1 x6_1 t210 x214001_1 x214002_1 = some r) ∧ Aside0 (kq ≤ k) ∧ Aside0 (Kd.R k60 60 w' w.heap.size (fun _ => True) v6 x6_1) ∧ Aside0 (IsS120 w w' g213 t210 x214001_1 x214002_1) ∧ Aside0 (Below w.heap.size w w'))
 case atStart => exact ⟨(a1), (y214), (t211), (t212), (by first | rfl | (simp; done) | (simp [*]; done)), H', ⟨Nat.le_refl _⟩, ⟨by (with_reducible repeat (first | apply Kd.R_alloc | apply Kd.R_drewN | apply Kd.R_drew)); exact HO216.out⟩, ⟨by repeat (first | (with_reducible first | exact HI213.out | apply IsS120.alloc | apply IsS120.drewN | apply IsS120.drew | apply IsS120.set_1 | apply IsS120.set_2) | exact HI213.out)⟩, ⟨by repeat (first | (with_reducible first | exact HB.out | apply below_alloc | apply pw_below_drewN | apply below_drew1 | refine below_set ?_ (IsS120.ge HI213.out)) | exact HB.out)⟩⟩
 case round =>
  clear H'
  try clear p2
  try clear c3
  obtain ⟨x1_1, x6_1, x214001_1, x214002_1, rfl, HA, HK1, HO_6, HI213, HB⟩ := hrel
  cases gk with
  | zero => exact absurd HA.out (by simp [spec_R8Parcels.l0])
  | succ k1 =>
   have H := HA.out
   clear HA
   simp only [spec_R8Parcels.l0] at H
   by_cases c7 : x1_1 > 0
   ·rw [if_pos c7] at H
    have c7b0 : decide (0 < x1_1) = true := decide_eq_true c7
    clear c7
    replace H := Option.bind_eq_some_iff.mp H
    obtain ⟨⟨t217, t218, t219⟩, A80, H⟩ := H
    replace H : ((spec_l00Src_pick.f t210 t218 t219 50).bind fun bt221 => (if x6_1.length < 8796093022208 then (spec_R8Parcels.l0 k1 (wrap64 (x1_1 - 1)) (x6_1 ++ [(⟨wrap64 (1 + t217), wrap64 (1 + bt221.1)⟩ : S60)]) t210 bt221.2.1 bt221.2.2) else (none))) = some r := H
    have A8 := Aside0.mk A80
    clear A80
    replace H := Option.bind_eq_some_iff.mp H
    obtain ⟨⟨t221, t222, t223⟩, A90, H⟩ := H
    replace H : (if x6_1.length < 8796093022208 then (spec_R8Parcels.l0 k1 (wrap64 (x1_1 - 1)) (x6_1 ++ [(⟨wrap64 (1 + t217), wrap64 (1 + t221)⟩ : S60)]) t210 t222 t223) else (none)) = some r := H
    have A9 := Aside0.mk A90
    clear A90
    by_cases c10 : x6_1.length < 8796093022208
    ·rw [if_pos c10] at H
     have LMc10 := Aside0.mk c10
     clear c10
     obtain ⟨y224, hy224⟩ : ∃ y_ : List (S60), y_ = (x6_1 ++ [(⟨wrap64 (1 + t217), wrap64 (1 + t221)⟩ : S60)]) := ⟨_, rfl⟩
     replace H : (spec_R8Parcels.l0 k1 (wrap64 (x1_1 - 1)) y224 t210 t222 t223) = some r := by first | (rw [hy224]; with_reducible exact H) | (have H2_ := (Option.bind_some _ _).symm.trans H; rw [hy224]; with_reducible exact H2_) | (have H2_ := (Option.bind_some _ _).symm.trans H; with_reducible exact H2_) | with_reducible exact H | (rw [hy224]; exact H) | exact H
     have Ny224 := Aside0.mk hy224
     clear hy224
     have H' := Aside0.mk H
     clear H
     go_wp2_with (first | ((with_reducible refine gate_callee (f := 78) rfl ?_); refine goesL_ (some 16) rfl rfl Try.func78 (by kernel_rfl) rfl #[.pointer (some ⟨g213, 0, none⟩), .int .i64 4] rfl (by (try simp only [List.map_toArray, List.map_cons, List.map_nil]); first | done | rfl | (simp only [List.length_drop, List.length_take]; rfl)) ?_; (with_reducible refine (spec_l00Src_pick.calls g213 t210 x214001_1 x214002_1 4 t217 t218 t219 w _ ?side1 ?side2 A8.out).mono ?_); (case side1 => repeat (first | (with_reducible first | exact HI213.out | apply IsS120.alloc | apply IsS120.drewN | apply IsS120.drew | apply IsS120.set_1 | apply IsS120.set_2) | exact HI213.out)); (case side2 => repeat (first | (with_reducible first | exact HB.out | apply below_alloc | apply pw_below_drewN | apply below_drew1 | refine below_set ?_ (IsS120.ge HI213.out)) | exact HB.out)); rintro e w11 ⟨rfl, hi, hb, hk⟩; refine ⟨_, rfl, ?_⟩; have n0_ := Aside0.mk (Kd.R_mono (Kd.R_keep (IsS120.apart (show IsS120 w _ g213 t210 x214001_1 x214002_1 from by repeat (first | (with_reducible first | exact HI213.out | apply IsS120.alloc | apply IsS120.drewN | apply IsS120.drew | apply IsS120.set_1 | apply IsS120.set_2) | exact HI213.out)) (by (with_reducible repeat (first | apply Kd.R_alloc | apply Kd.R_drewN | apply Kd.R_drew)); exact HO_6.out) (by decide)) hk (fun _ h => h.2)) (fun _ h => h.1)); have n1_ := Aside0.mk (hb); have n2_ := Aside0.mk (hi); clear HO_6; clear HB; clear HI213; have HO_6 := n0_; have HB := n1_; have HI213 := n2_; clear n0_ n1_ n2_; (try clear hb); (try clear hb2); (try clear hk); (try clear hi)) | ((with_reducible refine gate_dst (N := 7) rfl ?_); refine box_event ?hg (N := 7) ?hd (cs := #[.int .i64 0, .int .i64 0]) (t := 60) ?hr ?_; (case hd => rfl); (case hg => rfl); (case hr => first | (go_simp; done) | (go_simp; rfl)); intro gb220 hg w12 hbox hb; have n0_ := Aside0.mk (Kd.R_below (Kd.R_elderB (by (with_reducible repeat (first | apply Kd.R_alloc | apply Kd.R_drewN | apply Kd.R_drew)); exact HO_6.out) gb220 (Nat.le_of_eq hg.symm)) hb); have n1_ := Aside0.mk (IsS120.below (by repeat (first | (with_reducible first | exact HI213.out | apply IsS120.alloc | apply IsS120.drewN | apply IsS120.drew | apply IsS120.set_1 | apply IsS120.set_2) | exact HI213.out)) hb); have n2_ := Aside0.mk (below_step (by repeat (first | (with_reducible first | exact HB.out | apply below_alloc | apply pw_below_drewN | apply below_drew1 | refine below_set ?_ (IsS120.ge HI213.out)) | exact HB.out)) hb); have n3_ := Aside0.mk (hbox); have n4_ := Aside0.mk ((by rw [hg]; exact (below_size (by repeat (first | (with_reducible first | exact HB.out | apply below_alloc | apply pw_below_drewN | apply below_drew1 | refine below_set ?_ (IsS120.ge HI213.out)) | exact HB.out))) : w.heap.size ≤ gb220)); have n5_ := Aside0.mk ((by rw [hg]; exact (below_size (by repeat (first | (with_reducible first | exact HB.out | apply below_alloc | apply pw_below_drewN | apply below_drew1 | refine below_set ?_ (IsS120.ge HI213.out)) | exact HB.out))) : w.heap.size ≤ gb220)); have n6_ := Aside0.mk ((by rw [hg]; exact Nat.ne_of_lt (IsS120.lt (show IsS120 w _ g213 t210 t218 t219 from by repeat (first | (with_reducible first | exact HI213.out | apply IsS120.alloc | apply IsS120.drewN | apply IsS120.drew | apply IsS120.set_1 | apply IsS120.set_2) | exact HI213.out))) : g213 ≠ gb220)); have n7_ := Aside0.mk ((by rw [hg]; exact Nat.ne_of_gt (IsS120.lt (show IsS120 w _ g213 t210 t218 t219 from by repeat (first | (with_reducible first | exact HI213.out | apply IsS120.alloc | apply IsS120.drewN | apply IsS120.drew | apply IsS120.set_1 | apply IsS120.set_2) | exact HI213.out))) : gb220 ≠ g213)); clear HO_6; clear HI213; clear HB; have HO_6 := n0_; have HI213 := n1_; have HB := n2_; have BK220 := n3_; have GW220 := n4_; have GE220 := n5_; have NB213_220 := n6_; have NB220_213 := n7_; clear n0_ n1_ n2_ n3_ n4_ n5_ n6_ n7_; clear hb hbox hg; have hnb13 := NB220_213.out; have hnc13 := NB213_220.out; have hcz14_0 : w12.cell? ⟨gb220, 0, none⟩ = some (.int .i64 0) := (blk_cell BK220.out 0).trans rfl; have hcz14_1 : w12.cell? ⟨gb220, 1, none⟩ = some (.int .i64 0) := (blk_cell BK220.out 1).trans rfl; have hfz14_0 := blk_frozen BK220.out 0; have hfz14_1 := blk_frozen BK220.out 1) | ((with_reducible refine gate_callee (f := 78) rfl ?_); refine goesL_ (some 20) rfl rfl Try.func78 (by kernel_rfl) rfl #[.pointer (some ⟨g213, 0, none⟩), .int .i64 50] rfl (by (try simp only [List.map_toArray, List.map_cons, List.map_nil]); first | done | rfl | (simp only [List.length_drop, List.length_take]; rfl)) ?_; (with_reducible refine (spec_l00Src_pick.calls g213 t210 t218 t219 50 t221 t222 t223 w _ ?side1 ?side2 A9.out).mono ?_); (case side1 => repeat (first | (with_reducible first | exact HI213.out | apply IsS120.alloc | apply IsS120.drewN | apply IsS120.drew | apply IsS120.set_1 | apply IsS120.set_2 | refine IsS120.far ?_ NB213_220.out _) | exact HI213.out)); (case side2 => repeat (first | (with_reducible first | exact HB.out | apply below_alloc | apply pw_below_drewN | apply below_drew1 | refine below_set ?_ (IsS120.ge HI213.out) | refine below_set ?_ GE220.out) | exact HB.out)); rintro e w15 ⟨rfl, hi, hb, hk⟩; refine ⟨_, rfl, ?_⟩; have n0_ := Aside0.mk (Kd.R_mono (Kd.R_keep (IsS120.apart (show IsS120 w _ g213 t210 t218 t219 from by repeat (first | (with_reducible first | exact HI213.out | apply IsS120.alloc | apply IsS120.drewN | apply IsS120.drew | apply IsS120.set_1 | apply IsS120.set_2 | refine IsS120.far ?_ NB213_220.out _) | exact HI213.out)) (by (with_reducible repeat (first | apply Kd.R_alloc | apply Kd.R_drewN | apply Kd.R_drew)); exact (Kd.R_mono (Kd.R_far (p := ⟨gb220, 1, none⟩) (Kd.R_far (p := ⟨gb220, 0, none⟩) (Kd.R_mono HO_6.out (fun k_ hk => (⟨hk, hk.2⟩ : _ ∧ k_ ≠ gb220))) (fun _ hk => hk.2) (.int .i64 (wrap64 (1 + t217)))) (fun _ hk => hk.2) (.int .i64 0)) (fun _ h_ => h_.1))) (by decide)) hk (fun _ h => h.2)) (fun _ h => h.1)); have n1_ := Aside0.mk (KeepBut.blk hk (g' := gb220) (o := .cells #[.int .i64 (wrap64 (1 + t217)), .int .i64 0] 60 (0, 0)) (by (with_reducible repeat (first | refine blk_drewN ?_ _ | refine blk_drew ?_ | refine blk_alloc ?_ _)); refine blk_put (cs := #[.int .i64 (wrap64 (1 + t217)), .int .i64 0]) ?_ 1 _ rfl; (with_reducible repeat (first | refine blk_drewN ?_ _ | refine blk_drew ?_ | refine blk_alloc ?_ _)); refine blk_put (cs := #[.int .i64 0, .int .i64 0]) ?_ 0 _ rfl; (with_reducible repeat (first | refine blk_drewN ?_ _ | refine blk_drew ?_ | refine blk_alloc ?_ _)); exact BK220.out) NB220_213.out (by simp)); have n2_ := Aside0.mk (hb); have n3_ := Aside0.mk (hi); clear HO_6; clear BK220; clear HB; clear HI213; have HO_6 := n0_; have BK220 := n1_; have HB := n2_; have HI213 := n3_; clear n0_ n1_ n2_ n3_; (try clear hb); (try clear hb2); (try clear hk); (try clear hi); have hcz16_0 : w15.cell? ⟨gb220, 0, none⟩ = some (.int .i64 (wrap64 (1 + t217))) := (blk_cell BK220.out 0).trans rfl; have hcz16_1 : w15.cell? ⟨gb220, 1, none⟩ = some (.int .i64 0) := (blk_cell BK220.out 1).trans rfl; have hfz16_0 := blk_frozen BK220.out 0; have hfz16_1 := blk_frozen BK220.out 1) | ((with_reducible refine gate_builtin (b := .append) (xs := #[.tmp 23, .tmp 25]) rfl ?_); at_builtin; refine Kd.R_append k60 (w0 := w) w.heap.size rfl (.tmp 23) (.tmp 25) 52 60 (.agg #[(.int .i64 0), (.int .i64 0)]) 16 rfl Try.underlying52 info60 rfl (by decide) (by omega) u6 x6_1 (⟨wrap64 (1 + t217), wrap64 (1 + t221)⟩ : S60) [.int .i64 (wrap64 (1 + t217)), .int .i64 (wrap64 (1 + t221))] (fun k_ => k_ ≠ gb220) (fun _ => False) rfl (by first | (go_simp; done) | (go_simp; rfl)) ?aP (fun _ hk => hk.elim) ?aF ?aO ?aB ?aS ?aL ?_; (case aP => exact k60_mkM _ _ _ (⟨wrap64 (1 + t217), wrap64 (1 + t221)⟩ : S60)); (case aB => exact (by repeat (first | (with_reducible first | exact HB.out | apply below_alloc | apply pw_below_drewN | apply below_drew1 | refine below_set ?_ (IsS120.ge HI213.out) | refine below_set ?_ GE220.out) | exact HB.out))); (case aF => exact (fun k_ hk => Kd.freshB (g := gb220) (o := .cells #[.int .i64 (wrap64 (1 + t217)), .int .i64 (wrap64 (1 + t221))] 60 (0, 0)) (by (with_reducible repeat (first | refine blk_drewN ?_ _ | refine blk_drew ?_ | refine blk_alloc ?_ _)); refine blk_put (cs := #[.int .i64 (wrap64 (1 + t217)), .int .i64 0]) ?_ 1 _ rfl; (with_reducible repeat (first | refine blk_drewN ?_ _ | refine blk_drew ?_ | refine blk_alloc ?_ _)); exact BK220.out) k_ hk)); (case aO => exact (by (with_reducible repeat (first | apply Kd.R_alloc | apply Kd.R_drewN | apply Kd.R_drew)); exact Kd.R_mono (Kd.R_far (p := ⟨gb220, 1, none⟩) (Kd.R_mono HO_6.out (fun k_ hk => (⟨hk, hk.2⟩ : _ ∧ k_ ≠ gb220))) (fun _ hk => hk.2) (.int .i64 (wrap64 (1 + t221)))) (fun _ hk => hk.1.2))); (case aS => exact (below_size (by repeat (first | (with_reducible first | exact HB.out | apply below_alloc | apply pw_below_drewN | apply below_drew1 | refine below_set ?_ (IsS120.ge HI213.out) | refine below_set ?_ GE220.out) | exact HB.out)))); (case aL => have := LMc10.out; omega); intro v225 w17 ho hb hg hat; rw [← Ny224.out] at ho; have n0_ := Aside0.mk (IsS120.grown (IsS120.far HI213.out NB213_220.out _) hg (IsS120.own_ne HI213.out HO_6.out (by decide))); have n1_ := Aside0.mk (blk_grown (g := gb220) (o := .cells #[.int .i64 (wrap64 (1 + t217)), .int .i64 (wrap64 (1 + t221))] 60 (0, 0)) (by (with_reducible repeat (first | refine blk_drewN ?_ _ | refine blk_drew ?_ | refine blk_alloc ?_ _)); refine blk_put (cs := #[.int .i64 (wrap64 (1 + t217)), .int .i64 0]) ?_ 1 _ rfl; (with_reducible repeat (first | refine blk_drewN ?_ _ | refine blk_drew ?_ | refine blk_alloc ?_ _)); exact BK220.out) hg (Kd.R_away HO_6.out (fun _ hk => hk.2))); have n2_ := Aside0.mk (hb); have n3_ := Aside0.mk (ho); clear HI213; clear BK220; clear HB; clear HO_6; have HI213 := n0_; have BK220 := n1_; have HB := n2_; have HO226 := n3_; clear n0_ n1_ n2_ n3_; clear ho hb hg hat))
     go_roundg k1
     case measure => have := HK1.out; omega
     case rel => exact ⟨(wrap64 (x1_1 - 1)), (y224), (t222), (t223), (by first | rfl | (simp; done) | (simp [*]; done)), H', ⟨by have := HK1.out; omega⟩, ⟨by (with_reducible repeat (first | apply Kd.R_alloc | apply Kd.R_drewN | apply Kd.R_drew)); exact Kd.R_mono HO226.out (fun _ hk => trivial)⟩, ⟨by repeat (first | (with_reducible first | exact HI213.out | apply IsS120.alloc | apply IsS120.drewN | apply IsS120.drew | apply IsS120.set_1 | apply IsS120.set_2 | refine IsS120.far ?_ NB213_220.out _) | exact HI213.out)⟩, ⟨by repeat (first | (with_reducible first | exact HB.out | apply below_alloc | apply pw_below_drewN | apply below_drew1 | refine below_set ?_ (IsS120.ge HI213.out) | refine below_set ?_ GE220.out) | exact HB.out)⟩⟩
    ·rw [if_neg c10] at H
     exact absurd H (by simp)
   ·rw [if_neg c7] at H
    have c7b0 : decide (0 < x1_1) = false := decide_eq_false c7
    clear c7
    obtain rfl := Option.some.inj H
    go_wp2
    go_ret
    exact ⟨_, by first | rfl | (simp [errW_none, errW_some] <;> rfl) | (simp [*, errW_none, errW_some] <;> rfl), by (with_reducible repeat (first | apply Kd.R_alloc | apply Kd.R_drewN | apply Kd.R_drew)); exact HO_6.out, by repeat (first | (with_reducible first | exact HB.out | apply below_alloc | apply pw_below_drewN | apply below_drew1 | refine below_set ?_ (IsS120.ge HI213.out)) | exact HB.out)⟩

end Go.Proofs.Ytgpiaeklhhacjaa.XFnHeld
