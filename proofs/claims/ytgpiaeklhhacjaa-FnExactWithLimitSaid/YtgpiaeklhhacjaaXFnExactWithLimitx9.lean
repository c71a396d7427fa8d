-- Written by a program of this session (wip/xprint: over the kit's print). Not trusted: Lean checks it.
import Derived.Test.YtgpiaeklhhacjaaXFnExactWithLimitx0
import Derived.Test.YtgpiaeklhhacjaaXFnExactWithLimitx1
import Derived.Test.YtgpiaeklhhacjaaXFnExactWithLimitx3
import Derived.Test.YtgpiaeklhhacjaaXFnExactWithLimitx4
import Derived.Test.YtgpiaeklhhacjaaXFnExactWithLimitx7
import Derived.Test.YtgpiaeklhhacjaaXFnExactWithLimitx8
namespace Go.Proofs.Ytgpiaeklhhacjaa.XFnExactWithLimit
open Go.RowKit Go.Proofs.YtgpiaeklhhacjaaW.PrintWords Go.Proofs.YtgpiaeklhhacjaaW.PrintLast Go.Proofs.YtgpiaeklhhacjaaW.PrintMore
open Go.Proofs.Ytgpiaeklhhacjaa.XW
attribute [local go_sem] max2_int min2_int max_two min_two max_three min_three max_four min_four   -- for this text's walks alone
set_option linter.unusedVariables false
set_option linter.unusedSimpArgs false

/-! ### impl_WithLimit: function 45 (by hand; numbers of the seat jaa) -/
/-- What a post becomes that is changed by 'do'; 'do' tells whether it can be done, the limit and the boxes then. -/
def changedF (k : Nat) (doF : Int → List S58 → Option (Bool × Int × List S58)) (lim : Int) (bs : List S58) : Option (Int × List S58 × Bool) :=
 (impl_ValidPost.f k lim bs).bind fun t1 => (if t1 = true then ((impl_clonePost.f k lim bs).bind fun t2 => ((doF t2.1 t2.2).bind fun t3 => (if t3.1 = true then ((impl_ValidPost.f k t3.2.1 t3.2.2).bind fun t4 => (if t4 = true then some (t3.2.1, t3.2.2, true) else some (0, [], false))) else some (0, [], false)))) else some (0, [], false))
/-- What is asked of 'do': of the call's own (from w on) it changes the post's block, its boxes' rows and what is new; of the rest it keeps 'St'. -/
def DoAt (fn : Nat) (lb : Array Value) (doF : Int → List S58 → Option (Bool × Int × List S58)) (St : World → Prop) (w : World) : Prop :=
 ∀ (W : World) (gO : Nat) (lim : Int) (v : Value) (bs : List S58) (r : Bool × Int × List S58), Below w.heap.size w W → w.heap.size ≤ gO → W.heap[gO]? = some (.cells #[.int .i64 lim, v] 29 (0, 0)) → Kd.S k58 58 W w.heap.size (fun _ => True) v bs → doF lim bs = some r →
   Calls Try.prog fn (#[.pointer (some ⟨gO, 0, none⟩)] ++ lb) W fun e w' => e = .returned (.bool r.1) ∧ ∃ v', w'.heap[gO]? = some (.cells #[.int .i64 r.2.1, v'] 29 (0, 0)) ∧ Kd.S k58 58 w' w.heap.size (fun _ => True) v' r.2.2 ∧ St w' ∧ W.heap.size ≤ w'.heap.size ∧ ∀ g, w.heap.size ≤ g → g < W.heap.size → (∃ cs, W.heap[g]? = some (.cells cs 29 (0, 0))) → g ≠ gO → w'.heap[g]? = W.heap[g]?
theorem size_set (w : World) (p : Addr) (u : Value) : (w.setCell p u).heap.size = w.heap.size := by simp [World.setCell]
set_option maxHeartbeats 8000000 in
set_option maxRecDepth 100000 in
theorem changedPost_calls (k : Nat) (fn : Nat) (lb : Array Value) (eg : ∀ args w, (callFunc fn args).run Try.prog w = .ok (.enter fn args) w) (doF : Int → List S58 → Option (Bool × Int × List S58)) (St : World → Prop) (w : World)
  (hSt0 : ∀ W, Below w.heap.size w W → St W) (hSt1 : ∀ W W', St W → w.heap.size ≤ W.heap.size → Below W.heap.size W W' → St W') (hSt2 : ∀ W g j u, St W → w.heap.size ≤ g → St (W.setCell ⟨g, j, none⟩ u)) (hdo : DoAt fn lb doF St w)
  (a0 : Int) (A0 : Option Addr) (c0 : Nat) (l0 : List S58) (r1 : Int) (r2 : List S58) (r3 : Bool) (hr0 : Kd.C k58 w A0 l0.length l0) (hc0 : l0.length ≤ c0) (h : changedF k doF a0 l0 = some (r1, r2, r3)) :
  Calls Try.prog 81 #[.agg #[.int .i64 a0, .slice A0 l0.length c0], .func (.func fn) #[] lb] w fun e w' => ∃ v1_ : Value, e = .returned (.tuple #[.agg #[.int .i64 r1, v1_], .bool r3]) ∧ Kd.S k58 58 w' w.heap.size (fun _ => True) v1_ r2 ∧ St w' ∧ w.heap.size ≤ w'.heap.size := by
 unfold changedF at h
 obtain ⟨t1, h1, h⟩ := Option.bind_eq_some_iff.mp h
 have HR0 := Aside0.mk hr0
 have HC0 := Aside0.mk hc0
 have A1' := Aside0.mk h1
 have HS0 := Aside0.mk hSt0
 have HS1 := Aside0.mk hSt1
 have HS2 := Aside0.mk hSt2
 have HDO := Aside0.mk hdo
 have b2 := Aside0.mk (blk_alloc (heap_alloc_new w (.cells #[.int .i64 a0, .slice A0 l0.length c0] 29)) (.cells #[.int .i64 0, .slice none 0 0] 29))
 have b4 := Aside0.mk (heap_alloc_new (w.alloc (.cells #[.int .i64 a0, .slice A0 l0.length c0] 29)) (.cells #[.int .i64 0, .slice none 0 0] 29))
 have bz : (w.alloc (.cells #[.int .i64 a0, .slice A0 l0.length c0] 29)).heap.size = w.heap.size + 1 := by simp
 rw [bz] at b4
 have HB0 := Aside0.mk (below_alloc (below_alloc (Below.refl w.heap.size w) (.cells #[.int .i64 a0, .slice A0 l0.length c0] 29)) (.cells #[.int .i64 0, .slice none 0 0] 29))
 clear hr0 hc0 h1 hSt0 hSt1 hSt2 hdo bz
 cases t1 with
 | false =>
  rw [if_neg (by simp)] at h
  simp only [Option.some.injEq, Prod.mk.injEq] at h
  obtain ⟨rfl, rfl, rfl⟩ := h
  go_enter Try.func81, Try.ntmps81
  go_wp2_with (go_at_call 25; refine (impl_ValidPost.calls k a0 A0 c0 l0 false _ (by repeat (first | exact HR0.out | (with_reducible refine Kd.C_alloc ?_ _))) HC0.out A1'.out).mono ?_; rintro e w1 ⟨rfl, hb1⟩; have HB1 := Aside0.mk (HB0.out.trans (hb1.mono HB0.out.size)); have b4' := Aside0.mk (blk_bel b4.out hb1); clear hb1; have hz0 : w1.cell? ⟨w.heap.size + 1, 0, none⟩ = some (.int .i64 0) := (blk_cell b4'.out 0).trans rfl; have hz1 : w1.cell? ⟨w.heap.size + 1, 1, none⟩ = some (.slice none 0 0) := (blk_cell b4'.out 1).trans rfl; have hf0 := blk_frozen b4'.out 0; have hf1 := blk_frozen b4'.out 1)
  refine bodyPost_ret (results_ct rfl _ _ (w.heap.size + 1) 29 #[.int .i64 0, .slice none 0 0] (0, 0) _ rfl (by refine blk_put (cs := #[.int .i64 0, .slice none 0 0]) ?_ 1 _ rfl; refine blk_put (cs := #[.int .i64 0, .slice none 0 0]) ?_ 0 _ rfl; exact b4'.out) Try.underlying29 rfl (by kernel_rfl)) rfl ?_
  exact ⟨_, rfl, Kd.S_nil _ _ _ _ _, HS2.out _ _ _ _ (HS2.out _ _ _ _ (HS0.out _ HB1.out) (by omega)) (by omega), by simp only [size_set]; exact HB1.out.size⟩
 | true =>
  rw [if_pos rfl] at h
  obtain ⟨⟨lim1, bs1⟩, h2, h⟩ := Option.bind_eq_some_iff.mp h
  obtain ⟨⟨ok3, lim3, bs3⟩, h3, h⟩ := Option.bind_eq_some_iff.mp h
  simp only at h3 h
  have A2' := Aside0.mk h2
  have A3' := Aside0.mk h3
  clear h2 h3
  cases ok3 with
  | false =>
   rw [if_neg (by simp)] at h
   simp only [Option.some.injEq, Prod.mk.injEq] at h
   obtain ⟨rfl, rfl, rfl⟩ := h
   go_enter Try.func81, Try.ntmps81
   go_wp2_with (first | (go_at_call 25; (with_reducible refine (impl_ValidPost.calls k a0 A0 c0 l0 true _ ?s25 HC0.out A1'.out).mono ?_); (case s25 => repeat (first | exact HR0.out | (with_reducible refine Kd.C_alloc ?_ _))); rintro e w1 ⟨rfl, hb1⟩; have HB1 := Aside0.mk (HB0.out.trans (hb1.mono HB0.out.size)); have b4' := Aside0.mk (blk_bel b4.out hb1); have b2' := Aside0.mk (blk_bel b2.out hb1); clear hb1; have hp0 : w1.cell? ⟨w.heap.size, 0, none⟩ = some (.int .i64 a0) := (blk_cell b2'.out 0).trans rfl; have hp1 : w1.cell? ⟨w.heap.size, 1, none⟩ = some (.slice A0 l0.length c0) := (blk_cell b2'.out 1).trans rfl) | (go_at_call 114; refine (impl_clonePost.calls k a0 A0 c0 l0 lim1 bs1 w1 (Kd.C_below HR0.out HB1.out) HC0.out A2'.out).mono ?_; clear hp0 hp1; rintro e w2 ⟨v2, rfl, hs2, hb2⟩; obtain ⟨Av, cv, ev⟩ := Kd.S_slice hs2; subst ev; have HB2 := Aside0.mk (HB1.out.trans (hb2.mono HB1.out.size)); have b4'' := Aside0.mk (blk_bel b4'.out hb2); have S2 := Aside0.mk (Kd.S_lower hs2 HB1.out.size); clear hb2 hs2) | (go_at_fn fn; refine (HDO.out _ w2.heap.size lim1 (.slice Av bs1.length cv) bs1 (false, lim3, bs3) (below_alloc HB2.out _) HB2.out.size (heap_alloc_new w2 _) (Kd.S_alloc S2.out _) A3'.out).mono ?_; rintro e w3 ⟨rfl, v3, hk3, hs3, hst3, hsz3, hkeep3⟩; have hlt4 := blk_lt b4''.out; have b43 := Aside0.mk ((hkeep3 (w.heap.size + 1) (by omega) (by simp; omega) ⟨_, blk_alloc b4''.out _⟩ (by omega)).trans (blk_alloc b4''.out _)); have K3 := Aside0.mk hk3; have S3 := Aside0.mk hs3; have ST3 := Aside0.mk hst3; have SZ3 := Aside0.mk hsz3; clear hk3 hs3 hst3 hsz3 hkeep3 hlt4; have hz0 : w3.cell? ⟨w.heap.size + 1, 0, none⟩ = some (.int .i64 0) := (blk_cell b43.out 0).trans rfl; have hz1 : w3.cell? ⟨w.heap.size + 1, 1, none⟩ = some (.slice none 0 0) := (blk_cell b43.out 1).trans rfl; have hf0 := blk_frozen b43.out 0; have hf1 := blk_frozen b43.out 1))
   refine bodyPost_ret (results_ct rfl _ _ (w.heap.size + 1) 29 #[.int .i64 0, .slice none 0 0] (0, 0) _ rfl (by refine blk_put (cs := #[.int .i64 0, .slice none 0 0]) ?_ 1 _ rfl; refine blk_put (cs := #[.int .i64 0, .slice none 0 0]) ?_ 0 _ rfl; exact b43.out) Try.underlying29 rfl (by kernel_rfl)) rfl ?_
   exact ⟨_, rfl, Kd.S_nil _ _ _ _ _, HS2.out _ _ _ _ (HS2.out _ _ _ _ ST3.out (by omega)) (by omega), by simp only [size_set]; have := SZ3.out; have := HB2.out.size; simp at *; omega⟩
  | true =>
   rw [if_pos rfl] at h
   obtain ⟨t4, h4, h⟩ := Option.bind_eq_some_iff.mp h
   have A4' := Aside0.mk h4
   clear h4
   cases t4 with
   | false =>
    rw [if_neg (by simp)] at h
    simp only [Option.some.injEq, Prod.mk.injEq] at h
    obtain ⟨rfl, rfl, rfl⟩ := h
    go_enter Try.func81, Try.ntmps81
    go_wp2_with (first | (go_at_call 25; (with_reducible refine (impl_ValidPost.calls k a0 A0 c0 l0 true _ ?s25 HC0.out A1'.out).mono ?_); (case s25 => repeat (first | exact HR0.out | (with_reducible refine Kd.C_alloc ?_ _))); rintro e w1 ⟨rfl, hb1⟩; have HB1 := Aside0.mk (HB0.out.trans (hb1.mono HB0.out.size)); have b4' := Aside0.mk (blk_bel b4.out hb1); have b2' := Aside0.mk (blk_bel b2.out hb1); clear hb1; have hp0 : w1.cell? ⟨w.heap.size, 0, none⟩ = some (.int .i64 a0) := (blk_cell b2'.out 0).trans rfl; have hp1 : w1.cell? ⟨w.heap.size, 1, none⟩ = some (.slice A0 l0.length c0) := (blk_cell b2'.out 1).trans rfl) | (go_at_call 114; refine (impl_clonePost.calls k a0 A0 c0 l0 lim1 bs1 w1 (Kd.C_below HR0.out HB1.out) HC0.out A2'.out).mono ?_; clear hp0 hp1; rintro e w2 ⟨v2, rfl, hs2, hb2⟩; obtain ⟨Av, cv, ev⟩ := Kd.S_slice hs2; subst ev; have HB2 := Aside0.mk (HB1.out.trans (hb2.mono HB1.out.size)); have b4'' := Aside0.mk (blk_bel b4'.out hb2); have S2 := Aside0.mk (Kd.S_lower hs2 HB1.out.size); clear hb2 hs2) | (go_at_fn fn; refine (HDO.out _ w2.heap.size lim1 (.slice Av bs1.length cv) bs1 (true, lim3, bs3) (below_alloc HB2.out _) HB2.out.size (heap_alloc_new w2 _) (Kd.S_alloc S2.out _) A3'.out).mono ?_; rintro e w3 ⟨rfl, v3, hk3, hs3, hst3, hsz3, hkeep3⟩; have hlt4 := blk_lt b4''.out; have b43 := Aside0.mk ((hkeep3 (w.heap.size + 1) (by omega) (by simp; omega) ⟨_, blk_alloc b4''.out _⟩ (by omega)).trans (blk_alloc b4''.out _)); have K3 := Aside0.mk hk3; have S3 := Aside0.mk hs3; have ST3 := Aside0.mk hst3; have SZ3 := Aside0.mk hsz3; clear hk3 hs3 hst3 hsz3 hkeep3 hlt4; obtain ⟨A3, c3, e3⟩ := Kd.S_slice S3.out; subst e3; have hq0 : w3.cell? ⟨w2.heap.size, 0, none⟩ = some (.int .i64 lim3) := (blk_cell K3.out 0).trans rfl; have hq1 : w3.cell? ⟨w2.heap.size, 1, none⟩ = some (.slice A3 bs3.length c3) := (blk_cell K3.out 1).trans rfl) | (go_at_call 25; (with_reducible refine (impl_ValidPost.calls k lim3 A3 c3 bs3 false _ ?s26 ?s27 A4'.out).mono ?_); (case s26 => exact (Kd.S_reads' S3.out).2.2); (case s27 => have := (Kd.S_reads' S3.out).2.1; exact this); clear hq0 hq1; rintro e w4 ⟨rfl, hb4⟩; have b44 := Aside0.mk (blk_bel b43.out hb4); have K4 := Aside0.mk (blk_bel K3.out hb4); have S4 := Aside0.mk (Kd.S_below S3.out hb4); have HSZ := Aside0.mk (show w.heap.size ≤ w3.heap.size from by have := SZ3.out; have := HB2.out.size; simp at *; omega); have ST4 := Aside0.mk (HS1.out _ _ ST3.out HSZ.out hb4); have SZ4 := Aside0.mk (Nat.le_trans HSZ.out hb4.size); clear hb4; have hz0 : w4.cell? ⟨w.heap.size + 1, 0, none⟩ = some (.int .i64 0) := (blk_cell b44.out 0).trans rfl; have hz1 : w4.cell? ⟨w.heap.size + 1, 1, none⟩ = some (.slice none 0 0) := (blk_cell b44.out 1).trans rfl; have hf0 := blk_frozen b44.out 0; have hf1 := blk_frozen b44.out 1))
    refine bodyPost_ret (results_ct rfl _ _ (w.heap.size + 1) 29 #[.int .i64 0, .slice none 0 0] (0, 0) _ rfl (by refine blk_put (cs := #[.int .i64 0, .slice none 0 0]) ?_ 1 _ rfl; refine blk_put (cs := #[.int .i64 0, .slice none 0 0]) ?_ 0 _ rfl; exact b44.out) Try.underlying29 rfl (by kernel_rfl)) rfl ?_
    exact ⟨_, rfl, Kd.S_nil _ _ _ _ _, HS2.out _ _ _ _ (HS2.out _ _ _ _ ST4.out (by omega)) (by omega), by simp only [size_set]; exact SZ4.out⟩
   | true =>
    rw [if_pos rfl] at h
    simp only [Option.some.injEq, Prod.mk.injEq] at h
    obtain ⟨rfl, rfl, rfl⟩ := h
    go_enter Try.func81, Try.ntmps81
    go_wp2_with (first | (go_at_call 25; (with_reducible refine (impl_ValidPost.calls k a0 A0 c0 l0 true _ ?s25 HC0.out A1'.out).mono ?_); (case s25 => repeat (first | exact HR0.out | (with_reducible refine Kd.C_alloc ?_ _))); rintro e w1 ⟨rfl, hb1⟩; have HB1 := Aside0.mk (HB0.out.trans (hb1.mono HB0.out.size)); have b4' := Aside0.mk (blk_bel b4.out hb1); have b2' := Aside0.mk (blk_bel b2.out hb1); clear hb1; have hp0 : w1.cell? ⟨w.heap.size, 0, none⟩ = some (.int .i64 a0) := (blk_cell b2'.out 0).trans rfl; have hp1 : w1.cell? ⟨w.heap.size, 1, none⟩ = some (.slice A0 l0.length c0) := (blk_cell b2'.out 1).trans rfl) | (go_at_call 114; refine (impl_clonePost.calls k a0 A0 c0 l0 lim1 bs1 w1 (Kd.C_below HR0.out HB1.out) HC0.out A2'.out).mono ?_; clear hp0 hp1; rintro e w2 ⟨v2, rfl, hs2, hb2⟩; obtain ⟨Av, cv, ev⟩ := Kd.S_slice hs2; subst ev; have HB2 := Aside0.mk (HB1.out.trans (hb2.mono HB1.out.size)); have b4'' := Aside0.mk (blk_bel b4'.out hb2); have S2 := Aside0.mk (Kd.S_lower hs2 HB1.out.size); clear hb2 hs2) | (go_at_fn fn; refine (HDO.out _ w2.heap.size lim1 (.slice Av bs1.length cv) bs1 (true, lim3, bs3) (below_alloc HB2.out _) HB2.out.size (heap_alloc_new w2 _) (Kd.S_alloc S2.out _) A3'.out).mono ?_; rintro e w3 ⟨rfl, v3, hk3, hs3, hst3, hsz3, hkeep3⟩; have hlt4 := blk_lt b4''.out; have b43 := Aside0.mk ((hkeep3 (w.heap.size + 1) (by omega) (by simp; omega) ⟨_, blk_alloc b4''.out _⟩ (by omega)).trans (blk_alloc b4''.out _)); have K3 := Aside0.mk hk3; have S3 := Aside0.mk hs3; have ST3 := Aside0.mk hst3; have SZ3 := Aside0.mk hsz3; clear hk3 hs3 hst3 hsz3 hkeep3 hlt4; obtain ⟨A3, c3, e3⟩ := Kd.S_slice S3.out; subst e3; have hq0 : w3.cell? ⟨w2.heap.size, 0, none⟩ = some (.int .i64 lim3) := (blk_cell K3.out 0).trans rfl; have hq1 : w3.cell? ⟨w2.heap.size, 1, none⟩ = some (.slice A3 bs3.length c3) := (blk_cell K3.out 1).trans rfl) | (go_at_call 25; (with_reducible refine (impl_ValidPost.calls k lim3 A3 c3 bs3 true _ ?s26 ?s27 A4'.out).mono ?_); (case s26 => exact (Kd.S_reads' S3.out).2.2); (case s27 => have := (Kd.S_reads' S3.out).2.1; exact this); clear hq0 hq1; rintro e w4 ⟨rfl, hb4⟩; have b44 := Aside0.mk (blk_bel b43.out hb4); have K4 := Aside0.mk (blk_bel K3.out hb4); have S4 := Aside0.mk (Kd.S_below S3.out hb4); have HSZ := Aside0.mk (show w.heap.size ≤ w3.heap.size from by have := SZ3.out; have := HB2.out.size; simp at *; omega); have ST4 := Aside0.mk (HS1.out _ _ ST3.out HSZ.out hb4); have SZ4 := Aside0.mk (Nat.le_trans HSZ.out hb4.size); clear hb4; have hz0 : w4.cell? ⟨w.heap.size + 1, 0, none⟩ = some (.int .i64 0) := (blk_cell b44.out 0).trans rfl; have hz1 : w4.cell? ⟨w.heap.size + 1, 1, none⟩ = some (.slice none 0 0) := (blk_cell b44.out 1).trans rfl; have hf0 := blk_frozen b44.out 0; have hf1 := blk_frozen b44.out 1; have hq0 : w4.cell? ⟨w2.heap.size, 0, none⟩ = some (.int .i64 lim3) := (blk_cell K4.out 0).trans rfl; have hq1 : w4.cell? ⟨w2.heap.size, 1, none⟩ = some (.slice A3 bs3.length c3) := (blk_cell K4.out 1).trans rfl))
    refine bodyPost_ret (results_ct rfl _ _ (w.heap.size + 1) 29 #[.int .i64 lim3, .slice A3 bs3.length c3] (0, 0) _ rfl (by refine blk_put (cs := #[.int .i64 lim3, .slice none 0 0]) ?_ 1 _ rfl; refine blk_put (cs := #[.int .i64 0, .slice none 0 0]) ?_ 0 _ rfl; exact b44.out) Try.underlying29 rfl (by kernel_rfl)) rfl ?_
    exact ⟨_, rfl, Kd.S_mono (Kd.S_far (p := ⟨w.heap.size + 1, 1, none⟩) (Kd.S_far (p := ⟨w.heap.size + 1, 0, none⟩) (Kd.S_types S4.out b44.out (by decide)) (fun _ hk => hk.2) _) (fun _ hk => hk.2) _) (fun _ _ => trivial), HS2.out _ _ _ _ (HS2.out _ _ _ _ ST4.out (by omega)) (by omega), by simp only [size_set]; exact SZ4.out⟩
/-- What 'do' keeps of the rest: the posts' blocks, but its own. -/
def Keep29 (b : Nat) (W : World) (gO : Nat) (w' : World) : Prop := W.heap.size ≤ w'.heap.size ∧ ∀ g, b ≤ g → g < W.heap.size → (∃ cs, W.heap[g]? = some (.cells cs 29 (0, 0))) → g ≠ gO → w'.heap[g]? = W.heap[g]?
theorem keep29_refl (b : Nat) (W : World) (gO : Nat) : Keep29 b W gO W := ⟨Nat.le_refl _, fun _ _ _ _ _ => rfl⟩
theorem keep29_below {b : Nat} {W : World} {gO : Nat} {w1 w2 : World} (h : Keep29 b W gO w1) (hb : Below w1.heap.size w1 w2) : Keep29 b W gO w2 := ⟨Nat.le_trans h.1 hb.size, fun g h1 h2 h3 h4 => (hb.block g (Nat.lt_of_lt_of_le h2 h.1)).trans (h.2 g h1 h2 h3 h4)⟩
theorem keep29_grown {b : Nat} {W : World} {gO : Nat} {w1 w2 : World} {row : Option Nat} (h : Keep29 b W gO w1) (hg : w1.grownBy w2 row) (hne : ∀ g cs, w1.heap[g]? = some (.cells cs 29 (0, 0)) → some g ≠ row) : Keep29 b W gO w2 :=
 ⟨Nat.le_trans h.1 hg.size, fun g h1 h2 h3 h4 => by
  have hw := h.2 g h1 h2 h3 h4
  obtain ⟨cs, hcs⟩ := h3
  exact (hg.block g (Nat.lt_of_lt_of_le h2 h.1) (hne g cs (hw.trans hcs))).trans hw⟩
theorem keep29_set {b : Nat} {W : World} {gO : Nat} {w1 : World} {p : Addr} (u : Value) (h : Keep29 b W gO w1) (hne : ∀ g cs, w1.heap[g]? = some (.cells cs 29 (0, 0)) → g ≠ p.block) : Keep29 b W gO (w1.setCell p u) :=
 ⟨by rw [size_set]; exact h.1, fun g h1 h2 h3 h4 => by
  have hw := h.2 g h1 h2 h3 h4
  obtain ⟨cs, hcs⟩ := h3
  exact (Below.heap_setCell w1 p u g (hne g cs (hw.trans hcs))).trans hw⟩
theorem changedF_mono (doF : Int → List S58 → Option (Bool × Int × List S58)) (k : Nat) (lim : Int) (bs : List S58) : LeO (changedF k doF lim bs) (changedF (k + 1) doF lim bs) := by
 unfold changedF
 exact LeO.bind (impl_ValidPost.mono _ _ _) fun t1 => LeO.ite (LeO.bind (impl_clonePost.mono _ _ _) fun t2 => LeO.bind (LeO.refl _) fun t3 => LeO.ite (LeO.bind (impl_ValidPost.mono _ _ _) fun t4 => LeO.refl _) (LeO.refl _)) (LeO.refl _)
set_option maxHeartbeats 8000000 in
set_option maxRecDepth 100000 in
theorem trim_keep {W : World} {g o n len c : Nat} {A : Option Addr} (hc : W.cell? ⟨g, o + 3, none⟩ = some (.slice A len c)) (hn : len ≤ n) (hnb : n ≤ 1000) :
  Calls Try.prog 92 #[.pointer (some ⟨g, o, none⟩), .int .i64 n] W fun e w' => e = .returned (.tuple #[]) ∧ w' = W := by
 have hw : wrap64 ((len : Int) - (n : Int)) = (len : Int) - (n : Int) := by unfold wrap64; omega
 have hlt : (0 < (len : Int) - (n : Int)) = False := eq_false (by omega)
 go_enter Try.func92, Try.ntmps92
 go_wp2
 exact bodyPost_end (results_none rfl _ _ _) rfl ⟨rfl, rfl⟩
set_option maxHeartbeats 8000000 in
set_option maxRecDepth 100000 in
theorem trim_cut {W : World} {base g o n c : Nat} {ok : Nat → Prop} {A : Option Addr} {l : List S60} {mi : Int} {cs : Array Value} (hb : W.heap[g]? = some (.cells cs 58 (0, 0))) (hc2 : W.cell? ⟨g, o + 2, none⟩ = some (.int .i64 mi)) (hc : W.cell? ⟨g, o + 3, none⟩ = some (.slice A l.length c))
  (hR : Kd.R k60 60 W base ok (.slice A l.length c) l) (hn : n < l.length) (hl : l.length ≤ 1000) :
  Calls Try.prog 92 #[.pointer (some ⟨g, o, none⟩), .int .i64 n] W fun e w' => e = .returned (.tuple #[]) ∧ ∃ w2 A' c', Kd.R k60 60 w2 base ok (.slice A' (l.drop (l.length - n)).length c') (l.drop (l.length - n)) ∧ (Value.slice A' (l.drop (l.length - n)).length c').ownBlock = (Value.slice A l.length c).ownBlock ∧ W.grownBy w2 (Value.slice A l.length c).ownBlock ∧
   w' = (w2.setCell ⟨g, o + 3, none⟩ (.slice A' (l.drop (l.length - n)).length c')).setCell ⟨g, o + 2, none⟩ (.int .i64 (wrap64 (mi + ((l.length : Int) - (n : Int))))) := by
 have hw : wrap64 ((l.length : Int) - (n : Int)) = ((l.length - n : Nat) : Int) := by unfold wrap64; omega
 have hgt : (0 < ((l.length - n : Nat) : Int)) = True := eq_true (by omega)
 have RR := Aside0.mk hR
 have BB := Aside0.mk hb
 have hf3 := blk_frozen hb (o + 3)
 have hf2 := blk_frozen hb (o + 2)
 have DR0 := delete_row 0 (l.length - n) (by omega) (by omega) hR
 rw [show ((l.length - n : Nat) : Int) = (l.length : Int) - (n : Int) from by omega, List.take_zero, List.nil_append] at DR0
 have DR := Aside0.mk DR0
 clear hR hb DR0
 go_enter Try.func92, Try.ntmps92
 go_wp2_with (go_at_call 104; refine DR.out.mono ?_; rintro e w2 ⟨u', rfl, hr2, hown, hg2⟩; obtain ⟨A', c', e4⟩ := Kd.R_slice hr2; subst e4; have HG2 := Aside0.mk hg2; have HR2 := Aside0.mk hr2; have HOW := Aside0.mk hown; have CB2 := Aside0.mk (blk_grown BB.out hg2 (Kd.R_ne RR.out BB.out (by decide))); have hy3 : w2.cell? ⟨g, o + 3, none⟩ = some (.slice A l.length c) := (blk_cell CB2.out _).trans ((blk_cell BB.out _).symm.trans hc); have hy2 : w2.cell? ⟨g, o + 2, none⟩ = some (.int .i64 mi) := (blk_cell CB2.out _).trans ((blk_cell BB.out _).symm.trans hc2); have hyf3 := blk_frozen CB2.out (o + 3); have hyf2 := blk_frozen CB2.out (o + 2); clear hr2 hown hg2)
 exact bodyPost_end (results_none rfl _ _ _) rfl ⟨rfl, w2, A', c', HR2.out, HOW.out, HG2.out, by rw [List.length_drop]⟩
theorem in64 (lim : Int) : impl_in.f lim 1 64 = some (decide (1 ≤ lim ∧ lim ≤ 64)) := by
 unfold impl_in.f
 split
 ·congr 1; rw [decide_eq_decide]; omega
 ·congr 1; symm; rw [decide_eq_false_iff_not]; omega
def doWL (lim : Int) (l0 : Int) (bs : List S58) : Option (Bool × Int × List S58) := if bs.length ≤ 1000 ∧ (∀ b ∈ bs, b.f3.length ≤ 1000) then (if 1 ≤ lim ∧ lim ≤ 64 then some (true, lim, bs.map (fitB lim.toNat)) else some (false, lim, bs)) else none
set_option maxHeartbeats 8000000 in
set_option maxRecDepth 100000 in
theorem wl_do (nl : Int) (B : Nat) (w : World) (hB : w.heap[B]? = some (.cells #[.int .i64 nl] 2 (0, 0))) : DoAt 91 #[.pointer (some ⟨B, 0, none⟩)] (doWL nl) (fun W => Below w.heap.size w W) w := by
 intro W gO lim v bs r hW hgO hk hs hd
 unfold doWL at hd
 by_cases hsz : bs.length ≤ 1000 ∧ (∀ b ∈ bs, b.f3.length ≤ 1000)
 case neg => rw [if_neg hsz] at hd; cases hd
 rw [if_pos hsz] at hd
 obtain ⟨hn, hbl⟩ := hsz
 have HW := Aside0.mk hW
 have HBL := Aside0.mk hbl
 have HBB := Aside0.mk hB
 have HGO := Aside0.mk hgO
 obtain ⟨Av, cv, ev⟩ := Kd.S_slice hs
 subst ev
 have BBW := Aside0.mk (blk_bel hB hW)
 have hgB : gO ≠ B := blk_ne hk BBW.out (by decide)
 have hc0 : W.cell? ⟨gO, 0, none⟩ = some (.int .i64 lim) := (blk_cell hk 0).trans rfl
 have hcB : W.cell? ⟨B, 0, none⟩ = some (.int .i64 nl) := (blk_cell BBW.out 0).trans rfl
 have hf0 := blk_frozen hk 0
 have K1 := Aside0.mk (show (W.setCell ⟨gO, 0, none⟩ (.int .i64 nl)).heap[gO]? = some (.cells #[.int .i64 nl, .slice Av bs.length cv] 29 (0, 0)) from blk_put hk 0 (.int .i64 nl) rfl)
 have S1 := Aside0.mk (Kd.S_mono (Kd.S_far (p := ⟨gO, 0, none⟩) (Kd.S_types hs hk (by decide)) (fun _ hk => hk.2) (.int .i64 nl)) (ok' := fun _ => True) (fun _ _ => trivial))
 have W1 := Aside0.mk (below_set (j := 0) (v := .int .i64 nl) hW hgO)
 have B1 := Aside0.mk (blk_bel hB W1.out)
 have Z1 := Aside0.mk (show Keep29 w.heap.size W gO (W.setCell ⟨gO, 0, none⟩ (.int .i64 nl)) from ⟨by rw [size_set]; exact Nat.le_refl _, fun g _ _ _ hne => Below.heap_setCell W _ _ g hne⟩)
 have hcB1 : (W.setCell ⟨gO, 0, none⟩ (.int .i64 nl)).cell? ⟨B, 0, none⟩ = some (.int .i64 nl) := (blk_cell B1.out 0).trans rfl
 clear hW hk hs hbl hB hgO
 by_cases hin : 1 ≤ nl ∧ nl ≤ 64
 case neg =>
  rw [if_neg hin] at hd
  injection hd with hd
  subst hd
  have IN := Aside0.mk (show impl_in.f nl 1 64 = some false by rw [in64, decide_eq_false hin])
  show Calls Try.prog 91 #[.pointer (some ⟨gO, 0, none⟩), .pointer (some ⟨B, 0, none⟩)] W _
  go_enter Try.func91, Try.ntmps91
  go_wp2_with (go_at_call 70; refine (impl_in.calls nl 1 64 false _ IN.out).mono ?_; rintro e w5 ⟨rfl, hb5⟩; have HB5 := Aside0.mk hb5.below; clear hb5)
  go_ret
  exact ⟨rfl, _, blk_bel K1.out HB5.out, Kd.S_below S1.out HB5.out, W1.out.trans (HB5.out.mono W1.out.size), (keep29_below Z1.out HB5.out).1, (keep29_below Z1.out HB5.out).2⟩
 rw [if_pos hin] at hd
 injection hd with hd
 subst hd
 obtain ⟨n, rfl⟩ : ∃ n : Nat, nl = (n : Int) := ⟨nl.toNat, by omega⟩
 have hn64 : n ≤ 1000 := by omega
 rw [Int.toNat_natCast]
 have IN := Aside0.mk (show impl_in.f (n : Int) 1 64 = some true by rw [in64, decide_eq_true hin])
 clear hin
 show Calls Try.prog 91 #[.pointer (some ⟨gO, 0, none⟩), .pointer (some ⟨B, 0, none⟩)] W _
 go_enter Try.func91, Try.ntmps91
 go_wp2_with (go_at_call 70; refine (impl_in.calls n 1 64 true _ IN.out).mono ?_; rintro e w5 ⟨rfl, hb5⟩; have HB5 := Aside0.mk hb5.below; clear hb5 hc0 hcB hf0 hcB1; have HK := Aside0.mk (blk_bel K1.out HB5.out); have HS0 := Aside0.mk (Kd.S_below S1.out HB5.out); have HW5 := Aside0.mk (W1.out.trans (HB5.out.mono W1.out.size)); have HZ5 := Aside0.mk (keep29_below Z1.out HB5.out); have hc5 : w5.cell? ⟨gO, 1, none⟩ = some (.slice Av bs.length cv) := (blk_cell HK.out 1).trans rfl)
 have hp0 : part (fitB n) bs 0 = bs := by simp [part]
 have HS1 : Aside0 (Kd.S k58 58 w5 w.heap.size (fun _ => True) (.slice Av bs.length cv) (part (fitB n) bs 0)) := ⟨by rw [hp0]; exact HS0.out⟩
 clear hp0 hc5
 go_loopg [4, 17] bs.length (fun gg _ s17 wr => ∃ i : Nat, i ≤ bs.length ∧ bs.length - i ≤ gg ∧ s17 = .int .i64 i ∧ Aside0 (wr.heap[gO]? = some (.cells #[.int .i64 n, .slice Av bs.length cv] 29 (0, 0))) ∧ Aside0 (Kd.S k58 58 wr w.heap.size (fun _ => True) (.slice Av bs.length cv) (part (fitB n) bs i)) ∧ Aside0 (Below w.heap.size w wr) ∧ Aside0 (Keep29 w.heap.size W gO wr))
 case atStart => exact ⟨0, Nat.zero_le _, by omega, rfl, HK, HS1, HW5, HZ5⟩
 case round =>
  clear HK HS0 HS1 HW5 HZ5 HW K1 S1 W1 B1 Z1 HB5 BBW
  obtain ⟨i, hi, hgg, rfl, HK, HS, HW, HZ⟩ := hrel
  by_cases hlt : i < bs.length
  ·have hltz : (i : Int) < (bs.length : Int) := by omega
   obtain ⟨gb, cap, eb, hgb, hgb2, cellsb, hcb⟩ := Kd.S_form HS.out (by rw [part_len]; omega)
   rw [part_len] at eb
   injection eb with eA _ eC
   subst eA
   subst eC
   obtain ⟨oki, c, hcl, hM, hcc, hfr, hoki, hH⟩ := Kd.S_elem HS.out z58 (i : Int) (by omega) (by omega)
   rw [Int.toNat_natCast, part_at _ _ _ hlt] at hM
   rw [Int.toNat_natCast] at hcc hfr
   obtain ⟨v3, rfl, hR⟩ := k58_openM hM
   have hhl : bs[i].f3.length ≤ 1000 := HBL.out _ (List.getElem_mem hlt)
   obtain ⟨A3, c3, e3⟩ := Kd.R_slice hR
   subst e3
   have hx1 : wr.cell? ⟨gO, 1, none⟩ = some (.slice (some ⟨gb, 0, none⟩) bs.length cv) := (blk_cell HK.out 1).trans rfl
   have hx2 : wr.cell? ⟨gb, i * 4 + 2, none⟩ = some (.int .i64 bs[i].f2) := hcc 2 _ rfl
   have hx3 : wr.cell? ⟨gb, i * 4 + 3, none⟩ = some (.slice A3 bs[i].f3.length c3) := hcc 3 _ rfl
   have RR := Aside0.mk hR
   have HH := Aside0.mk hH
   have BB := Aside0.mk (blk_bel HBB.out HW.out)
   have CB := Aside0.mk hcb
   have hxB : wr.cell? ⟨B, 0, none⟩ = some (.int .i64 n) := (blk_cell BB.out 0).trans rfl
   clear hR hM hcc hfr hcl hH hoki hcb
   have HNE : gO ≠ gb := blk_ne HK.out CB.out (by decide)
   have HNB : B ≠ gb := blk_ne BB.out CB.out (by decide)
   by_cases hfit : n < bs[i].f3.length
   ·have TC := Aside0.mk (trim_cut (W := wr.drew) (o := i * 4) (show wr.drew.heap[gb]? = _ from CB.out) (show wr.drew.cell? _ = _ from hx2) (show wr.drew.cell? _ = _ from hx3) (Kd.R_drew RR.out) hfit hhl)
    clear hx2 hx3
    go_wp2_with fail
    go_region_held3 (fun w' => w'.cell? ⟨gO, 1, none⟩ = some (.slice (some ⟨gb, 0, none⟩) bs.length cv) ∧ w'.cell? ⟨B, 0, none⟩ = some (.int .i64 n))
     (first | (go_keep; done) | exact ⟨hy1, hy2⟩)
     ((first | (go_at_call 92; refine TC.out.mono ?_; rintro e w3 ⟨rfl, w2, A4, c4, hr2, hown, hg2, hw3⟩; have HG2 := Aside0.mk hg2; have HR2 := Aside0.mk hr2; have HOW := Aside0.mk hown; have CB2 := Aside0.mk (blk_grown (w := wr.drew) CB.out hg2 (Kd.R_ne RR.out CB.out (by decide))); have HKB := Aside0.mk (blk_grown (w := wr.drew) HK.out hg2 (Kd.R_ne RR.out HK.out (by decide))); have HBB2 := Aside0.mk (blk_grown (w := wr.drew) BB.out hg2 (Kd.R_ne RR.out BB.out (by decide))); have HW3 := Aside0.mk hw3; clear hr2 hown hg2 hw3; have hy1 : w3.cell? ⟨gO, 1, none⟩ = some (.slice (some ⟨gb, 0, none⟩) bs.length cv) := (by rw [HW3.out]; exact (blk_cell ((Below.heap_setCell _ _ _ _ HNE).trans ((Below.heap_setCell _ _ _ _ HNE).trans HKB.out)) 1).trans rfl); have hy2 : w3.cell? ⟨B, 0, none⟩ = some (.int .i64 n) := (by rw [HW3.out]; exact (blk_cell ((Below.heap_setCell _ _ _ _ HNB).trans ((Below.heap_setCell _ _ _ _ HNB).trans HBB2.out)) 0).trans rfl))))
    all_goals
     have ebx : (⟨bs[i].f0, bs[i].f1, wrap64 (bs[i].f2 + ((bs[i].f3.length : Int) - (n : Int))), bs[i].f3.drop (bs[i].f3.length - n)⟩ : S58) = fitB n bs[i] := by
      unfold fitB; rw [if_pos hfit]; congr 2; omega
     have HM2 : k58.M w2 w.heap.size oki (⟨bs[i].f0, bs[i].f1, bs[i].f2, bs[i].f3.drop (bs[i].f3.length - n)⟩ : S58) [.string bs[i].f0, .int .i64 bs[i].f1, .int .i64 bs[i].f2, .slice A4 (List.drop (bs[i].f3.length - n) bs[i].f3).length c4] := k58_mkM w2 w.heap.size oki (⟨bs[i].f0, bs[i].f1, bs[i].f2, bs[i].f3.drop (bs[i].f3.length - n)⟩ : S58) HR2.out
     have HS3 := (Kd.S_seg0 (Kd.H_grown (Kd.H_drew HH.out) HG2.out (fun k hk => RR.out.1 k hk)) (by omega) (by omega) (seg := [.slice A4 (List.drop (bs[i].f3.length - n) bs[i].f3).length c4]) (j := 3) (Nat.le_refl 4) (x' := (⟨bs[i].f0, bs[i].f1, bs[i].f2, bs[i].f3.drop (bs[i].f3.length - n)⟩ : S58)) HM2 (fun _ hk => hk)).1
     obtain ⟨okj, c', _, hM', _, _, _, hH'⟩ := Kd.S_elem HS3 z58 (i : Int) (by omega) (by omega)
     rw [Int.toNat_natCast, List.getD_eq_getElem?_getD, List.getElem?_set_self (by rw [part_len]; exact hlt), Option.getD_some] at hM'
     obtain ⟨v4, rfl, hR4⟩ := k58_openM hM'
     have HS5 := (Kd.S_seg0 hH' (by omega) (by omega) (seg := [.int .i64 (wrap64 (bs[i].f2 + ((bs[i].f3.length : Int) - (n : Int))))]) (j := 2) (show 3 ≤ 4 from by decide) (x' := fitB n bs[i]) (by rw [← ebx]; exact k58_mkM _ w.heap.size okj _ hR4) (fun _ hk => hk)).1
     rw [Int.toNat_natCast, List.set_set, part_set _ _ _ hlt] at HS5
     have HS6 : Aside0 (Kd.S k58 58 w3 w.heap.size (fun _ => True) (.slice (some ⟨gb, 0, none⟩) bs.length cv) (part (fitB n) bs (i + 1))) := ⟨by rw [HW3.out]; exact HS5⟩
     have HK4 : Aside0 (w3.heap[gO]? = some (.cells #[.int .i64 n, .slice (some ⟨gb, 0, none⟩) bs.length cv] 29 (0, 0))) := ⟨by rw [HW3.out]; exact (Below.heap_setCell _ _ _ _ HNE).trans ((Below.heap_setCell _ _ _ _ HNE).trans HKB.out)⟩
     have HW4 : Aside0 (Below w.heap.size w w3) := ⟨by rw [HW3.out]; exact ((HW.out.drew.grown (w := wr.drew) HG2.out HW.out.size (fun k hk => Kd.R_base RR.out k hk)).setCell (p := ⟨gb, i * 4 + 3, none⟩) hgb _).setCell (p := ⟨gb, i * 4 + 2, none⟩) hgb _⟩
     have CB3 := Aside0.mk (blk_put CB2.out (i * 4 + 3) (.slice A4 (List.drop (bs[i].f3.length - n) bs[i].f3).length c4) rfl)
     have HZ4 : Aside0 (Keep29 w.heap.size W gO w3) := ⟨by rw [HW3.out]; exact keep29_set (p := ⟨gb, i * 4 + 2, none⟩) _ (keep29_set (p := ⟨gb, i * 4 + 3, none⟩) _ (keep29_grown (w1 := wr.drew) (keep29_below HZ.out (below_drew (Below.refl _ _))) HG2.out (fun g cs hg => Kd.R_ne RR.out (show wr.heap[g]? = _ from hg) (by decide))) (fun g cs hg => blk_ne hg CB2.out (by decide))) (fun g cs hg => blk_ne hg CB3.out (by decide))⟩
     clear HM2 HS3 hM' hR4 hH' HS5 HK HW HZ HS HG2 HR2 HOW RR HH TC
     go_wp2
     go_roundg (bs.length - (i + 1))
     all_goals (first | omega | exact ⟨i + 1, by omega, by omega, by simp, HK4, HS6, HW4, HZ4⟩)
   ·have TK := Aside0.mk (trim_keep (W := wr.drew) (g := gb) (o := i * 4) (n := n) (show wr.drew.cell? _ = _ from hx3) (by omega) hn64)
    clear hx2 hx3
    go_wp2_with fail
    go_region_held3 (fun w' => w'.cell? ⟨gO, 1, none⟩ = some (.slice (some ⟨gb, 0, none⟩) bs.length cv) ∧ w'.cell? ⟨B, 0, none⟩ = some (.int .i64 n))
     (first | (go_keep; done) | exact ⟨hx1, hxB⟩)
     ((first | (go_at_call 92; refine TK.out.mono ?_; rintro e w3 ⟨rfl, rfl⟩)))
    all_goals
     have hst : part (fitB n) bs (i + 1) = part (fitB n) bs i := by
      have h1 := part_set (fitB n) bs i hlt
      have h2 : fitB n bs[i] = bs[i] := by unfold fitB; rw [if_neg hfit]
      rw [← h1, h2, ← part_at (fitB n) bs i hlt]
      exact set_getD_self _ _ (by rw [part_len]; exact hlt)
     have HS6 := Aside0.mk (Kd.S_drew HS.out)
     rw [← hst] at HS6
     have HW4 := Aside0.mk (HW.out.drew)
     have HZ4 := Aside0.mk (keep29_below HZ.out (below_drew (Below.refl _ _)))
     go_wp2
     go_roundg (bs.length - (i + 1))
     all_goals (first | omega | exact ⟨i + 1, by omega, by omega, by simp, HK, HS6, HW4, HZ4⟩)
  ·have hieq : i = bs.length := by omega
   subst hieq
   go_wp2
   go_ret
   exact ⟨rfl, _, HK.out, by rw [← part_end]; exact HS.out, HW.out, HZ.out.1, HZ.out.2⟩
def impl_WithLimit.f (k : Nat) (a0 : Int) (l0 : List S58) (a1 : Int) : Option (Int × List S58 × Bool) := changedF k (doWL a1) a0 l0
theorem impl_WithLimit.mono : ∀ a0 a1 a2 k, LeO (impl_WithLimit.f k a0 a1 a2) (impl_WithLimit.f (k + 1) a0 a1 a2) := fun _ _ _ k => changedF_mono _ k _ _
set_option maxHeartbeats 8000000 in
set_option maxRecDepth 100000 in
theorem impl_WithLimit.calls (k : Nat) (a0 : Int) (A0 : Option Addr) (c0 : Nat) (l0 : List S58) (a1 : Int) (r1 : Int) (r2 : List S58) (r3 : Bool) (w : World) (hr0 : Kd.C k58 w A0 l0.length l0) (hc0 : l0.length ≤ c0) (h : impl_WithLimit.f k a0 l0 a1 = some (r1, r2, r3)) :
  Calls Try.prog 45 #[.agg #[.int .i64 a0, .slice A0 l0.length c0], .int .i64 a1] w fun e w' => ∃ v1_ : Value, e = .returned (.tuple #[.agg #[.int .i64 r1, v1_], .bool r3]) ∧ Kd.S k58 58 w' w.heap.size (fun _ => True) v1_ r2 ∧ Below w.heap.size w w' := by
 have HR0 := Aside0.mk hr0
 have HC0 := Aside0.mk hc0
 have HH := Aside0.mk (show changedF k (doWL a1) a0 l0 = some (r1, r2, r3) from h)
 have eg := Aside0.mk (enters_of (P := Try.prog) Try.func91 (by kernel_rfl) rfl : ∀ args w, (callFunc 91 args).run Try.prog w = .ok (.enter 91 args) w)
 have z1 : (w.alloc (.cells #[.int .i64 a0, .slice A0 l0.length c0] 29)).heap.size = w.heap.size + 1 := by simp
 have z2 : ((w.alloc (.cells #[.int .i64 a0, .slice A0 l0.length c0] 29)).alloc (.cells #[.int .i64 a1] 2)).heap.size = w.heap.size + 2 := by simp
 have z3 := Aside0.mk (show (((w.alloc (.cells #[.int .i64 a0, .slice A0 l0.length c0] 29)).alloc (.cells #[.int .i64 a1] 2)).alloc (.cells #[.int .i64 0, .slice none 0 0] 29)).heap.size = w.heap.size + 3 by simp)
 have bB0 := heap_alloc_new (w.alloc (.cells #[.int .i64 a0, .slice A0 l0.length c0] 29)) (.cells #[.int .i64 a1] 2)
 rw [z1] at bB0
 have bB := Aside0.mk (blk_alloc bB0 (.cells #[.int .i64 0, .slice none 0 0] 29))
 have b40 := heap_alloc_new ((w.alloc (.cells #[.int .i64 a0, .slice A0 l0.length c0] 29)).alloc (.cells #[.int .i64 a1] 2)) (.cells #[.int .i64 0, .slice none 0 0] 29)
 rw [z2] at b40
 have b4 := Aside0.mk b40
 have HB := Aside0.mk (below_alloc (below_alloc (below_alloc (Below.refl w.heap.size w) (.cells #[.int .i64 a0, .slice A0 l0.length c0] 29)) (.cells #[.int .i64 a1] 2)) (.cells #[.int .i64 0, .slice none 0 0] 29))
 have CP := Aside0.mk (fun hC => (changedPost_calls k 91 #[.pointer (some ⟨w.heap.size + 1, 0, none⟩)] eg.out (doWL a1) (fun W => Below (((w.alloc (.cells #[.int .i64 a0, .slice A0 l0.length c0] 29)).alloc (.cells #[.int .i64 a1] 2)).alloc (.cells #[.int .i64 0, .slice none 0 0] 29)).heap.size (((w.alloc (.cells #[.int .i64 a0, .slice A0 l0.length c0] 29)).alloc (.cells #[.int .i64 a1] 2)).alloc (.cells #[.int .i64 0, .slice none 0 0] 29)) W) (((w.alloc (.cells #[.int .i64 a0, .slice A0 l0.length c0] 29)).alloc (.cells #[.int .i64 a1] 2)).alloc (.cells #[.int .i64 0, .slice none 0 0] 29)) (fun _ h => h) (fun W W' h1 h2 h3 => h1.trans (h3.mono h2)) (fun W g j u h1 h2 => h1.setCell (p := ⟨g, j, none⟩) h2 u) (wl_do a1 (w.heap.size + 1) _ bB.out) a0 A0 c0 l0 r1 r2 r3 hC HC0.out HH.out))
 clear hr0 hc0 h z1 z2 bB0 b40
 go_enter Try.func45, Try.ntmps45
 go_wp2_with (go_at_call 81; (with_reducible refine (CP.out ?s81).mono ?_); (case s81 => repeat (first | exact HR0.out | (with_reducible refine Kd.C_alloc ?_ _))); rintro e w5 ⟨v1_, rfl, hs5, hb5, _⟩; obtain ⟨Av, cv, ev⟩ := Kd.S_slice hs5; subst ev; have S5 := Aside0.mk (Kd.S_lower hs5 HB.out.size); have B5 := Aside0.mk (HB.out.trans (hb5.mono HB.out.size)); have b45 := Aside0.mk (blk_bel b4.out hb5); clear hs5 hb5; have hz0 : w5.cell? ⟨w.heap.size + 2, 0, none⟩ = some (.int .i64 0) := (blk_cell b45.out 0).trans rfl; have hz1 : w5.cell? ⟨w.heap.size + 2, 1, none⟩ = some (.slice none 0 0) := (blk_cell b45.out 1).trans rfl; have hf0 := blk_frozen b45.out 0; have hf1 := blk_frozen b45.out 1)
 refine bodyPost_ret (results_ct rfl _ _ (w.heap.size + 2) 29 #[.int .i64 r1, .slice Av r2.length cv] (0, 0) _ rfl (by refine blk_put (cs := #[.int .i64 r1, .slice none 0 0]) ?_ 1 _ rfl; refine blk_put (cs := #[.int .i64 0, .slice none 0 0]) ?_ 0 _ rfl; exact b45.out) Try.underlying29 rfl (by kernel_rfl)) rfl ?_
 exact ⟨_, rfl, Kd.S_mono (Kd.S_far (p := ⟨w.heap.size + 2, 1, none⟩) (Kd.S_far (p := ⟨w.heap.size + 2, 0, none⟩) (Kd.S_types S5.out b45.out (by decide)) (fun _ hk => hk.2) _) (fun _ hk => hk.2) _) (fun _ _ => trivial), below_set (below_set B5.out (by omega)) (by omega)⟩


/-! ### laws_FnExactWithLimit: function 10 (by hand; numbers of the seat jaa) -/
noncomputable def sureO (p : Prop) : Option Bool := @ite _ p (Classical.propDecidable p) (some true) none
theorem sureO_some {p : Prop} {r : Bool} (h : sureO p = some r) : p ∧ r = true := by
 unfold sureO at h
 split at h
 ·next hp => injection h with h; exact ⟨hp, h.symm⟩
 ·cases h
theorem sureO_mk {p : Prop} (h : p) : sureO p = some true := by unfold sureO; exact if_pos h
/-- A new post's block, filled. -/
def mk29 (W : World) (r : Int) (v : Value) : World := W.alloc (.cells #[.int .i64 r, v] 29)
theorem mk29_blk (W : World) (r : Int) (v : Value) : (mk29 W r v).heap[W.heap.size]? = some (.cells #[.int .i64 r, v] 29 (0, 0)) := heap_alloc_new W _
theorem mk29_below (W : World) (r : Int) (v : Value) : Below W.heap.size W (mk29 W r v) := below_alloc (Below.refl _ _) _
theorem mk29_size (W : World) (r : Int) (v : Value) : (mk29 W r v).heap.size = W.heap.size + 1 := by simp [mk29]
noncomputable def laws_FnExactWithLimit.f (k : Nat) (a0_0 : Int) (l0_1 : List (S115)) (a1 : Int) : Option Bool :=
 (laws_szPost.f k a0_0 l0_1 1048576).bind fun left => if left < 0 then some true else (laws_toPost.f k a0_0 l0_1).bind fun x => (spec_WithLimit.f k x.1 x.2 a1).bind fun s => (impl_WithLimit.f k x.1 x.2 a1).bind fun g => (laws_eqPost.f k s.1 s.2.1 s.1 s.2.1).bind fun e1 => (laws_eqPost.f k x.1 x.2 x.1 x.2).bind fun e2 => (laws_markPost.f k x.1 x.2 1).bind fun m1 => (laws_markPost.f k s.1 s.2.1 1).bind fun m2 => (laws_heldPost.f k s.1 m2.2 1).bind fun q => sureO (s = g ∧ e1 = true ∧ e2 = true ∧ 0 ≤ m1.1 ∧ 0 ≤ q ∧ q = m2.1)
set_option maxHeartbeats 16000000 in
set_option maxRecDepth 100000 in
theorem laws_FnExactWithLimit.calls (k : Nat) (a0_0 : Int) (A0_1 : Option Addr) (c0_1 : Nat) (l0_1 : List (S115)) (a1 : Int) (r : Bool) (w : World) (hr0_1 : Kd.C k115 w A0_1 l0_1.length l0_1) (hc0_1 : l0_1.length ≤ c0_1) (h : laws_FnExactWithLimit.f k a0_0 l0_1 a1 = some r) :
  Calls Try.prog 10 #[.agg #[.int .i64 a0_0, .slice A0_1 l0_1.length c0_1], .int .i64 a1] w fun e w' => e = .returned (.bool r) ∧ Below w.heap.size w w' := by
 unfold laws_FnExactWithLimit.f at h
 obtain ⟨left, hleft, h⟩ := Option.bind_eq_some_iff.mp h
 have HR0 := Aside0.mk hr0_1
 have HC0 := Aside0.mk hc0_1
 have LE := Aside0.mk hleft
 have b20 := Aside0.mk (heap_alloc_new w (.cells #[.int .i64 a0_0, .slice A0_1 l0_1.length c0_1] 24))
 have HB0 := Aside0.mk (below_alloc (Below.refl w.heap.size w) (.cells #[.int .i64 a0_0, .slice A0_1 l0_1.length c0_1] 24))
 clear hr0_1 hc0_1 hleft
 by_cases hneg : left < 0
 ·rw [if_pos hneg] at h
  injection h with h
  subst h
  go_enter Try.func10, Try.ntmps10
  go_wp2_with (go_at_call 15; refine (laws_szPost.calls k a0_0 A0_1 c0_1 l0_1 1048576 left _ (Kd.C_below HR0.out HB0.out) HC0.out LE.out).mono ?_; rintro e w1 ⟨rfl, hb1⟩; have HB1 := Aside0.mk (HB0.out.trans (hb1.mono HB0.out.size)); clear hb1)
  go_ret
  exact ⟨rfl, HB1.out⟩
 rw [if_neg hneg] at h
 obtain ⟨⟨lim, bs⟩, h1, h⟩ := Option.bind_eq_some_iff.mp h
 obtain ⟨⟨r1, r2, r3⟩, h2, h⟩ := Option.bind_eq_some_iff.mp h
 obtain ⟨g, h3, h⟩ := Option.bind_eq_some_iff.mp h
 obtain ⟨e1, h4, h⟩ := Option.bind_eq_some_iff.mp h
 obtain ⟨e2, h5, h⟩ := Option.bind_eq_some_iff.mp h
 obtain ⟨⟨kk, bs'⟩, h6, h⟩ := Option.bind_eq_some_iff.mp h
 obtain ⟨⟨m, r2'⟩, h7, h⟩ := Option.bind_eq_some_iff.mp h
 obtain ⟨q, h8, h⟩ := Option.bind_eq_some_iff.mp h
 obtain ⟨⟨rfl, rfl, rfl, hkk, hq, rfl⟩, rfl⟩ := sureO_some h
 simp only at h2 h3 h4 h5 h6 h7 h8 hkk hq
 have TP := Aside0.mk h1
 have SP := Aside0.mk h2
 have IM := Aside0.mk h3
 have EQ1 := Aside0.mk h4
 have EQ2 := Aside0.mk h5
 have MK1 := Aside0.mk h6
 have MK2 := Aside0.mk h7
 have HE := Aside0.mk h8
 have hl0 : (left < 0) = False := eq_false hneg
 have hk0 : (kk < 0) = False := eq_false (by omega)
 have hm0 : (q < 0) = False := eq_false (by omega)
 clear h h1 h2 h3 h4 h5 h6 h7 h8 hneg hkk hq
 go_enter Try.func10, Try.ntmps10
 go_wp2_with (first
  | (go_at_call 15; refine (laws_szPost.calls k a0_0 A0_1 c0_1 l0_1 1048576 left _ (Kd.C_below HR0.out HB0.out) HC0.out LE.out).mono ?_; rintro e w1 ⟨rfl, hb1⟩; have HB1 := Aside0.mk (HB0.out.trans (hb1.mono HB0.out.size)); have b21 := Aside0.mk (blk_bel b20.out hb1); clear hb1; have hc20 : (w1).cell? ⟨w.heap.size, 0, none⟩ = some (.int .i64 a0_0) := (blk_cell b21.out 0).trans rfl; have hc21 : (w1).cell? ⟨w.heap.size, 1, none⟩ = some (.slice A0_1 l0_1.length c0_1) := (blk_cell b21.out 1).trans rfl)
  | (go_at_call 17; refine (laws_toPost.calls k a0_0 A0_1 c0_1 l0_1 lim bs w1 (Kd.C_below HR0.out HB1.out) HC0.out TP.out).mono ?_; clear hc20 hc21; rintro e w2 ⟨v2, rfl, hs2, hb2⟩; obtain ⟨A2, c2, e2⟩ := Kd.S_slice hs2; subst e2; have S2 := Aside0.mk hs2; have HB2 := Aside0.mk (HB1.out.trans (hb2.mono HB1.out.size)); have b22 := Aside0.mk (blk_bel b21.out hb2); clear hs2 hb2)
  | (go_at_call 44; refine (spec_WithLimit.calls k lim A2 c2 bs a1 r1 r2 r3 w2 (Kd.S_reads' S2.out).2.2 (Kd.S_reads' S2.out).2.1 SP.out).mono ?_; rintro e w3 ⟨v3, rfl, ⟨A3, c3, rfl, hl3, hs3⟩, hb3⟩; have L3 := Aside0.mk hl3; clear hl3; have HB3 := Aside0.mk (HB2.out.trans (hb3.mono HB2.out.size)); have b23 := blk_bel b22.out hb3; have M3 := Aside0.mk (mk29_below w3 r1 (.slice A3 r2.length c3)); have K63 := Aside0.mk (mk29_blk w3 r1 (.slice A3 r2.length c3)); have b2m3 := Aside0.mk (blk_bel b23 M3.out); have S3 := Aside0.mk (Kd.C_below hs3 M3.out); have HM3 := Aside0.mk (HB3.out.trans (M3.out.mono HB3.out.size)); clear hs3 hb3 b23; have hx20 : (mk29 w3 r1 (.slice A3 r2.length c3)).cell? ⟨w.heap.size, 0, none⟩ = some (.int .i64 a0_0) := (blk_cell b2m3.out 0).trans rfl; have hx21 : (mk29 w3 r1 (.slice A3 r2.length c3)).cell? ⟨w.heap.size, 1, none⟩ = some (.slice A0_1 l0_1.length c0_1) := (blk_cell b2m3.out 1).trans rfl; unfold mk29 at hx20 hx21)
  | (go_at_call 17; refine (laws_toPost.calls k a0_0 A0_1 c0_1 l0_1 lim bs (mk29 w3 r1 (.slice A3 r2.length c3)) (Kd.C_below HR0.out HM3.out) HC0.out TP.out).mono ?_; clear hx20 hx21; rintro e w4 ⟨v4, rfl, hs4, hb4⟩; obtain ⟨A4, c4, e4⟩ := Kd.S_slice hs4; subst e4; have M4 := Aside0.mk (mk29_below w4 lim (.slice A4 bs.length c4)); have K84 := Aside0.mk (mk29_blk w4 lim (.slice A4 bs.length c4)); have LO4 := Aside0.mk (hb4.trans (M4.out.mono hb4.size)); have HM4 := Aside0.mk (HM3.out.trans (LO4.out.mono HM3.out.size)); have P4 := Aside0.mk (Kd.S_below (Kd.S_bound hs4) M4.out); have LS4 := Aside0.mk hb4.size; clear hs4 hb4)
  | (go_at_call 45; refine (impl_WithLimit.calls k lim A4 c4 bs a1 r1 r2 r3 (mk29 w4 lim (.slice A4 bs.length c4)) (Kd.S_reads' P4.out).2.2 (Kd.S_reads' P4.out).2.1 IM.out).mono ?_; rintro e w5 ⟨v5, rfl, hs5, hb5⟩; obtain ⟨A5, c5, e5⟩ := Kd.S_slice hs5; subst e5; have M5 := Aside0.mk (mk29_below w5 r1 (.slice A5 r2.length c5)); have K95 := Aside0.mk (mk29_blk w5 r1 (.slice A5 r2.length c5)); have LO5 := Aside0.mk (hb5.trans (M5.out.mono hb5.size)); have P5 := Aside0.mk (Kd.S_below (Kd.S_bound hs5) M5.out); have LS5 := Aside0.mk hb5.size; clear hs5 hb5; have HM5 := Aside0.mk (LO4.out.trans (LO5.out.mono LO4.out.size)); have K65 := Aside0.mk (blk_bel K63.out HM5.out); have hy60 : (mk29 w5 r1 (.slice A5 r2.length c5)).cell? ⟨w3.heap.size, 0, none⟩ = some (.int .i64 r1) := (blk_cell K65.out 0).trans rfl; have hy61 : (mk29 w5 r1 (.slice A5 r2.length c5)).cell? ⟨w3.heap.size, 1, none⟩ = some (.slice A3 r2.length c3) := (blk_cell K65.out 1).trans rfl; unfold mk29 at hy60 hy61)
  | (go_at_call 19; refine (laws_eqPost.calls k r1 A5 c5 r2 r1 A3 c3 r2 true (mk29 w5 r1 (.slice A5 r2.length c5)) (Kd.S_reads' P5.out).2.2 (Kd.S_reads' P5.out).2.1 (Kd.C_below S3.out HM5.out) L3.out EQ1.out).mono ?_; clear hy60 hy61; rintro e w6 ⟨rfl, hb6⟩; have HB6 := Aside0.mk hb6; clear hb6))
 have D6 := Aside0.mk (HM5.out.trans (HB6.out.mono HM5.out.size))
 have D46 := Aside0.mk (LO5.out.trans (HB6.out.mono LO5.out.size))
 have b26 := Aside0.mk (blk_bel b2m3.out D6.out)
 have K86 := Aside0.mk (blk_bel K84.out D46.out)
 have K96 := Aside0.mk (blk_bel K95.out HB6.out)
 have P46 := Aside0.mk (Kd.S_below P4.out D46.out)
 have P56 := Aside0.mk (Kd.S_below P5.out HB6.out)
 have W6 := Aside0.mk (HM3.out.trans (D6.out.mono HM3.out.size))
 have hs80 : (w6).cell? ⟨w4.heap.size, 0, none⟩ = some (.int .i64 lim) := (blk_cell K86.out 0).trans rfl
 have hs81 : (w6).cell? ⟨w4.heap.size, 1, none⟩ = some (.slice A4 bs.length c4) := (blk_cell K86.out 1).trans rfl
 have hs20 : (w6).cell? ⟨w.heap.size, 0, none⟩ = some (.int .i64 a0_0) := (blk_cell b26.out 0).trans rfl
 have hs21 : (w6).cell? ⟨w.heap.size, 1, none⟩ = some (.slice A0_1 l0_1.length c0_1) := (blk_cell b26.out 1).trans rfl
 go_region_held3 (fun w' => w'.cell? ⟨w4.heap.size, 0, none⟩ = some (.int .i64 lim) ∧ w'.cell? ⟨w4.heap.size, 1, none⟩ = some (.slice A4 bs.length c4) ∧ w'.cell? ⟨w.heap.size, 0, none⟩ = some (.int .i64 a0_0) ∧ w'.cell? ⟨w.heap.size, 1, none⟩ = some (.slice A0_1 l0_1.length c0_1))
  (first | (go_keep; done) | exact ⟨hz80, hz81, hz20, hz21⟩ | exact ⟨hv80, hv81, hv20, hv21⟩)
  (first | (go_at_call 17; refine (laws_toPost.calls k a0_0 A0_1 c0_1 l0_1 lim bs w6.drew (Kd.C_drew (Kd.C_below HR0.out W6.out)) HC0.out TP.out).mono ?_; rintro e w7 ⟨v7, rfl, hs7, hb7⟩; obtain ⟨A7, c7, e7⟩ := Kd.S_slice hs7; subst e7; have S7 := Aside0.mk hs7; have HB7 := Aside0.mk (show Below w6.heap.size w6 w7 from (below_drew (Below.refl _ _)).trans hb7); clear hs7 hb7; have b27 := Aside0.mk (blk_bel b26.out HB7.out); have K87 := Aside0.mk (blk_bel K86.out HB7.out); have hz80 : (w7).cell? ⟨w4.heap.size, 0, none⟩ = some (.int .i64 lim) := (blk_cell K87.out 0).trans rfl; have hz81 : (w7).cell? ⟨w4.heap.size, 1, none⟩ = some (.slice A4 bs.length c4) := (blk_cell K87.out 1).trans rfl; have hz20 : (w7).cell? ⟨w.heap.size, 0, none⟩ = some (.int .i64 a0_0) := (blk_cell b27.out 0).trans rfl; have hz21 : (w7).cell? ⟨w.heap.size, 1, none⟩ = some (.slice A0_1 l0_1.length c0_1) := (blk_cell b27.out 1).trans rfl) | (go_at_call 19; refine (laws_eqPost.calls k lim A4 c4 bs lim A7 c7 bs true w7 (Kd.C_below (Kd.S_reads' P46.out).2.2 HB7.out) (Kd.S_reads' P46.out).2.1 (Kd.S_reads' S7.out).2.2 (Kd.S_reads' S7.out).2.1 EQ2.out).mono ?_; rintro e w8 ⟨rfl, hb8⟩; have HB8 := Aside0.mk (HB7.out.trans (hb8.mono HB7.out.size)); clear hb8; have b28 := Aside0.mk (blk_bel b26.out HB8.out); have K88 := Aside0.mk (blk_bel K86.out HB8.out); have hv80 : (w8).cell? ⟨w4.heap.size, 0, none⟩ = some (.int .i64 lim) := (blk_cell K88.out 0).trans rfl; have hv81 : (w8).cell? ⟨w4.heap.size, 1, none⟩ = some (.slice A4 bs.length c4) := (blk_cell K88.out 1).trans rfl; have hv20 : (w8).cell? ⟨w.heap.size, 0, none⟩ = some (.int .i64 a0_0) := (blk_cell b28.out 0).trans rfl; have hv21 : (w8).cell? ⟨w.heap.size, 1, none⟩ = some (.slice A0_1 l0_1.length c0_1) := (blk_cell b28.out 1).trans rfl))
 have D8 := Aside0.mk (D6.out.trans (HB8.out.mono D6.out.size))
 have K98 := Aside0.mk (blk_bel K96.out HB8.out)
 have P48 := Aside0.mk (Kd.S_below P46.out HB8.out)
 have P58 := Aside0.mk (Kd.S_below P56.out HB8.out)
 clear P4 P5 P46 P56 K84 K95 K86 K96 b26 S2 S7 b22 b27 K87 b20 b21
 clear hs80 hs81 hs20 hs21 hz80 hz81 hz20 hz21
 have Z4 := Aside0.mk (mk29_size w4 lim (.slice A4 bs.length c4))
 have Z3 := Aside0.mk (mk29_size w3 r1 (.slice A3 r2.length c3))
 go_wp2_with (first
  | (go_at_call 22; have _g := hv80; clear _g; refine (laws_markPost.calls k lim _ (.slice A4 bs.length c4) bs 1 kk bs' (mk29 w3 r1 (.slice A3 r2.length c3)) w8 D8.out P48.out MK1.out).mono ?_; rintro e w9 ⟨rfl, hs9, hb9, hk9⟩; have D9 := Aside0.mk hb9; have b29 := Aside0.mk (blk_bel b2m3.out hb9); have K69 := Aside0.mk (blk_bel K63.out hb9); have K99 := Aside0.mk (blk_kept K98.out hk9 (fun h => by have h1 := h.2.2.1; have h2 := LS5.out; rw [Z4.out] at h2; omega)); have P59 := Aside0.mk (Kd.S_step P58.out (fun k_ h h1 => hk9.2 k_ h1 (fun h2 => by have h3 := h.2.1; rw [Z4.out] at h3; have := h2.2.2.1; omega))); clear hs9 hb9 hk9 hv80 hv81 hv20 hv21; have hq90 : (w9).cell? ⟨w5.heap.size, 0, none⟩ = some (.int .i64 r1) := (blk_cell K99.out 0).trans rfl; have hq91 : (w9).cell? ⟨w5.heap.size, 1, none⟩ = some (.slice A5 r2.length c5) := (blk_cell K99.out 1).trans rfl; have hq60 : (w9).cell? ⟨w3.heap.size, 0, none⟩ = some (.int .i64 r1) := (blk_cell K69.out 0).trans rfl; have hq61 : (w9).cell? ⟨w3.heap.size, 1, none⟩ = some (.slice A3 r2.length c3) := (blk_cell K69.out 1).trans rfl)
  | (go_at_call 19; have _g := hq90; clear _g; refine (laws_eqPost.calls k r1 A5 c5 r2 r1 A3 c3 r2 true w9 (Kd.S_reads' P59.out).2.2 (Kd.S_reads' P59.out).2.1 (Kd.C_below S3.out D9.out) L3.out EQ1.out).mono ?_; clear hq90 hq91 hq60 hq61; rintro e w10 ⟨rfl, hb10⟩; have D10 := Aside0.mk (D9.out.trans (hb10.mono D9.out.size)); have K910 := Aside0.mk (blk_bel K99.out hb10); have P510 := Aside0.mk (Kd.S_lower (Kd.S_below P59.out hb10) (Nat.le_trans LS4.out (by rw [Z4.out]; omega))); clear hb10; have hr90 : (w10).cell? ⟨w5.heap.size, 0, none⟩ = some (.int .i64 r1) := (blk_cell K910.out 0).trans rfl; have hr91 : (w10).cell? ⟨w5.heap.size, 1, none⟩ = some (.slice A5 r2.length c5) := (blk_cell K910.out 1).trans rfl)
  | (go_at_call 22; have _g := hr90; clear _g; refine (laws_markPost.calls k r1 _ (.slice A5 r2.length c5) r2 1 q r2' (mk29 w3 r1 (.slice A3 r2.length c3)) w10 D10.out P510.out MK2.out).mono ?_; clear hr90 hr91; rintro e w11 ⟨rfl, hs11, hb11, hk11⟩; have D11 := Aside0.mk hb11; have K911 := Aside0.mk (blk_kept K910.out hk11 (fun h => by have h1 := h.2.2.1; omega)); have P511 := Aside0.mk hs11; clear hs11 hb11 hk11; have ht90 : (w11).cell? ⟨w5.heap.size, 0, none⟩ = some (.int .i64 r1) := (blk_cell K911.out 0).trans rfl; have ht91 : (w11).cell? ⟨w5.heap.size, 1, none⟩ = some (.slice A5 r2.length c5) := (blk_cell K911.out 1).trans rfl)
  | (go_at_call 23; have _g := ht90; clear _g; rw [(Kd.S_reads' P511.out).1]; refine (laws_heldPost.calls k r1 A5 c5 r2' 1 q w11 (Kd.S_reads' P511.out).2.2 (by have := (Kd.S_reads' P511.out).2.1; rw [(Kd.S_reads' P511.out).1] at this; exact this) HE.out).mono ?_; clear ht90 ht91; rintro e w12 ⟨rfl, hb12⟩; have D12 := Aside0.mk (D11.out.trans (hb12.mono D11.out.size)); have K912 := Aside0.mk (blk_bel K911.out hb12); have P512 := Aside0.mk (Kd.S_below P511.out hb12); clear hb12; have b212 := Aside0.mk (blk_bel b2m3.out D12.out); have ha20 : (w12).cell? ⟨w.heap.size, 0, none⟩ = some (.int .i64 a0_0) := (blk_cell b212.out 0).trans rfl; have ha21 : (w12).cell? ⟨w.heap.size, 1, none⟩ = some (.slice A0_1 l0_1.length c0_1) := (blk_cell b212.out 1).trans rfl)
  | (go_at_call 17; have _g := ha20; clear _g; refine (laws_toPost.calls k a0_0 A0_1 c0_1 l0_1 lim bs w12 (Kd.C_below (Kd.C_below HR0.out HM3.out) D12.out) HC0.out TP.out).mono ?_; clear ha20 ha21; rintro e w13 ⟨v13, rfl, hs13, hb13⟩; obtain ⟨A13, c13, e13⟩ := Kd.S_slice hs13; subst e13; have S13 := Aside0.mk hs13; have HB13 := Aside0.mk hb13; clear hs13 hb13)
  | (go_at_call 45; refine (impl_WithLimit.calls k lim A13 c13 bs a1 r1 r2 r3 w13 (Kd.S_reads' S13.out).2.2 (Kd.S_reads' S13.out).2.1 IM.out).mono ?_; rintro e w14 ⟨v14, rfl, hs14, hb14⟩; obtain ⟨A14, c14, e14⟩ := Kd.S_slice hs14; subst e14; have M14 := Aside0.mk (mk29_below w14 r1 (.slice A14 r2.length c14)); have HB14 := Aside0.mk ((HB13.out.trans (hb14.mono HB13.out.size)).trans (M14.out.mono (HB13.out.trans (hb14.mono HB13.out.size)).size)); have S14 := Aside0.mk (Kd.S_below hs14 M14.out); have D14 := Aside0.mk (D12.out.trans (HB14.out.mono D12.out.size)); have K614 := Aside0.mk (blk_bel K63.out D14.out); clear hs14 hb14; have hd60 : (mk29 w14 r1 (.slice A14 r2.length c14)).cell? ⟨w3.heap.size, 0, none⟩ = some (.int .i64 r1) := (blk_cell K614.out 0).trans rfl; have hd61 : (mk29 w14 r1 (.slice A14 r2.length c14)).cell? ⟨w3.heap.size, 1, none⟩ = some (.slice A3 r2.length c3) := (blk_cell K614.out 1).trans rfl; unfold mk29 at hd60 hd61)
  | (go_at_call 19; have _g := hd60; clear _g; refine (laws_eqPost.calls k r1 A14 c14 r2 r1 A3 c3 r2 true (mk29 w14 r1 (.slice A14 r2.length c14)) (Kd.S_reads' S14.out).2.2 (Kd.S_reads' S14.out).2.1 (Kd.C_below S3.out D14.out) L3.out EQ1.out).mono ?_; clear hd60 hd61; rintro e w15 ⟨rfl, hb15⟩; have HB15 := Aside0.mk (HB14.out.trans (hb15.mono HB14.out.size)); have D15 := Aside0.mk (D14.out.trans (hb15.mono D14.out.size)); clear hb15; have K915 := Aside0.mk (blk_bel K912.out HB15.out); have P515 := Aside0.mk (Kd.S_below P512.out HB15.out); have he90 : (w15).cell? ⟨w5.heap.size, 0, none⟩ = some (.int .i64 r1) := (blk_cell K915.out 0).trans rfl; have he91 : (w15).cell? ⟨w5.heap.size, 1, none⟩ = some (.slice A5 r2.length c5) := (blk_cell K915.out 1).trans rfl)
  | (go_at_call 23; have _g := he90; clear _g; rw [(Kd.S_reads' P515.out).1]; refine (laws_heldPost.calls k r1 A5 c5 r2' 1 q w15 (Kd.S_reads' P515.out).2.2 (by have := (Kd.S_reads' P515.out).2.1; rw [(Kd.S_reads' P515.out).1] at this; exact this) HE.out).mono ?_; clear he90 he91; rintro e w16 ⟨rfl, hb16⟩; have D16 := Aside0.mk (D15.out.trans (hb16.mono D15.out.size)); clear hb16))
 go_ret
 exact ⟨rfl, HM3.out.trans (D16.out.mono HM3.out.size)⟩

instance : Inhabited S70 := ⟨z70⟩
def Q70 (x : S70) : Prop := (Lit.int .i64 x.f0).wf = true ∧ (Lit.int .i64 x.f1).wf = true
theorem opens70 : Opens Try.prog 70 k70 Q70 := opens_struct Try.underlying70 (by kernel_rfl) (opensF_cons rfl (by kernel_rfl) (opens_int Try.underlying2) (opensF_one rfl (by kernel_rfl) (opens_int Try.underlying2))) (fun x : S70 => (x.f0, x.f1)) (fun y => ⟨y.1, y.2⟩) (fun _ => rfl)
instance : Inhabited S115 := ⟨z115⟩
def Q115 (x : S115) : Prop := x.f0.size ≤ 9223372036854775807 ∧ (Lit.int .i64 x.f1).wf = true ∧ (Lit.int .i64 x.f2).wf = true ∧ (x.f3.length ≤ 9223372036854775807 ∧ ∀ y ∈ x.f3, Q70 y)
theorem opens115 : Opens Try.prog 115 k115 Q115 := opens_struct Try.underlying115 (by kernel_rfl) (opensF_cons rfl (by kernel_rfl) (opens_string Try.underlying9) (opensF_cons rfl (by kernel_rfl) (opens_int Try.underlying2) (opensF_cons rfl (by kernel_rfl) (opens_int Try.underlying2) (opensF_one rfl (by kernel_rfl) (opens_slice Try.underlying63 (by kernel_rfl) opens70))))) (fun x : S115 => (x.f0, x.f1, x.f2, x.f3)) (fun y => ⟨y.1, y.2.1, y.2.2.1, y.2.2.2⟩) (fun _ => rfl)
/-- THE ONE PURE STATEMENT of laws_FnExactWithLimit. -/
def laws_FnExactWithLimit.Pure : Prop := ∀ (a0_0 : Int) (l0_1 : List (S115)) (a1 : Int), (Lit.int .i64 a0_0).wf = true → (l0_1.length ≤ 9223372036854775807 ∧ ∀ y ∈ l0_1, Q115 y) → (Lit.int .i64 a1).wf = true → ∃ k, laws_FnExactWithLimit.f k a0_0 l0_1 a1 = some true
theorem laws_FnExactWithLimit.walk (P : laws_FnExactWithLimit.Pure) (a0_0 : Int) (A0_1 : Option Addr) (c0_1 : Nat) (l0_1 : List (S115)) (a1 : Int) (w : World) (hr0_1 : Kd.C k115 w A0_1 l0_1.length l0_1) (hc0_1 : l0_1.length ≤ c0_1) (hq0_0 : (Lit.int .i64 a0_0).wf = true) (hq0_1 : (l0_1.length ≤ 9223372036854775807 ∧ ∀ y ∈ l0_1, Q115 y)) (hq1 : (Lit.int .i64 a1).wf = true) :
  Calls Try.prog 10 #[.agg #[.int .i64 a0_0, .slice A0_1 l0_1.length c0_1], .int .i64 a1] w fun e w' => e = .returned (.bool true) ∧ Below w.heap.size w w' := by
 obtain ⟨k, h⟩ := P a0_0 l0_1 a1 hq0_0 hq0_1 hq1
 refine (laws_FnExactWithLimit.calls k a0_0 _ _ l0_1 a1 true w hr0_1 hc0_1 h).mono ?_
 rintro e w' ⟨rfl, hd⟩
 exact ⟨rfl, hd⟩

end Go.Proofs.Ytgpiaeklhhacjaa.XFnExactWithLimit
