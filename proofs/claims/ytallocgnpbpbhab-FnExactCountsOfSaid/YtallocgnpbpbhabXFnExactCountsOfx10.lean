-- Written by a program of this session (wip/xprint: over the kit's print). Not trusted: Lean checks it.
import Derived.Test.YtallocgnpbpbhabXFnExactCountsOfx0
import Derived.Test.YtallocgnpbpbhabXFnExactCountsOfx1
import Derived.Test.YtallocgnpbpbhabXFnExactCountsOfx2
import Derived.Test.YtallocgnpbpbhabXFnExactCountsOfx3
import Derived.Test.YtallocgnpbpbhabXFnExactCountsOfx5
import Derived.Test.YtallocgnpbpbhabXFnExactCountsOfx8
import Derived.Test.YtallocgnpbpbhabXFnExactCountsOfx9
namespace Go.Proofs.Ytallocgnpbpbhab.XFnExactCountsOf
open Go.RowKit Go.Proofs.YtallocgnpbpbhabW.PrintWords Go.Proofs.YtallocgnpbpbhabW.PrintLast Go.Proofs.YtallocgnpbpbhabW.PrintMore
open Go.Proofs.Ytallocgnpbpbhab.XW
attribute [local go_sem] max2_int min2_int max_two min_two max_three min_three max_four min_four   -- for this text's walks alone
set_option linter.unusedVariables false
set_option linter.unusedSimpArgs false

/-! ### laws_FnExactCountsOf: function 3 (by hand; numbers of the seat Ytallocgnpbpbhab (r5)) -/
/-! ### Rows of four numbers -/
structure R4 where
 a : Int
 b : Int
 c : Int
 d : Int
instance : Inhabited R4 := ⟨⟨0, 0, 0, 0⟩⟩
def z4 : R4 := ⟨0, 0, 0, 0⟩
def R4.l (r : R4) : List Int := [r.a, r.b, r.c, r.d]
def R4.cells (r : R4) : Array Value := #[.int .i64 r.a, .int .i64 r.b, .int .i64 r.c, .int .i64 r.d]
def hdr (g : Nat) : Value := .slice (some ⟨g, 0, none⟩) 4 4
theorem infoHdr : (Try.prog.info? 41).map (fun i => (i.zero, i.size, i.bytes)) = some (some (.slice none 0 0), 1, 24) := by kernel_rfl
/-- A slice of rows, each in a block of its own. -/
structure RowsG (w : World) (base : Nat) (v : Value) (gs : List Nat) (rs : List R4) : Prop where
 len : gs.length = rs.length
 own : w.ownsRow base 41 1 v rs.length (gs.map hdr)
 nd : gs.Nodup
 blk : ∀ i, i < rs.length → w.heap[gs.getD i 0]? = some (.cells (rs.getD i z4).cells 2 (0, 0)) ∧ base ≤ gs.getD i 0
theorem blk_bel {w w1 : World} {g : Nat} {o : Obj} (h : w.heap[g]? = some o) (hb : Below w.heap.size w w1) : w1.heap[g]? = some o := (hb.block g (blk_lt h)).trans h
theorem ownsRow_below {w w1 : World} {base e size n : Nat} {v : Value} {xs : List Value} (h : w.ownsRow base e size v n xs) (hb : Below w.heap.size w w1) : w1.ownsRow base e size v n xs := by
 obtain ⟨h1, h2⟩ := h
 refine ⟨h1, ?_⟩
 rcases h2 with h2 | ⟨g, cap, cur, e1, e2, e3, e4⟩
 ·exact .inl h2
 ·exact .inr ⟨g, cap, cur, e1, e2, blk_bel e3 hb, e4⟩
theorem RowsG.below {w w1 : World} {base : Nat} {v : Value} {gs : List Nat} {rs : List R4} (h : RowsG w base v gs rs) (hb : Below w.heap.size w w1) : RowsG w1 base v gs rs :=
 ⟨h.len, ownsRow_below h.own hb, h.nd, fun i hi => ⟨blk_bel (h.blk i hi).1 hb, (h.blk i hi).2⟩⟩
theorem RowsG.form {w : World} {base : Nat} {v : Value} {gs : List Nat} {rs : List R4} (h : RowsG w base v gs rs) : ∃ A c, v = .slice A rs.length c ∧ rs.length ≤ c := by
 rcases h.own.2 with ⟨e1, e2⟩ | ⟨g, cap, cur, e1, _, _, e4, _⟩
 ·exact ⟨none, 0, by rw [e1, e2], by omega⟩
 ·exact ⟨_, cap, e1, e4⟩
theorem RowsG.at {w : World} {base : Nat} {A : Option Addr} {n c : Nat} {gs : List Nat} {rs : List R4} (h : RowsG w base (.slice A n c) gs rs) (i : Nat) (hi : i < rs.length) : ∃ g, A = some ⟨g, 0, none⟩ ∧ base ≤ g ∧ (∃ cur, w.heap[g]? = some (.cells cur 41 (0, 0))) ∧ w.cell? ⟨g, i, none⟩ = some (hdr (gs.getD i 0)) := by
 have hg : i < gs.length := by rw [h.len]; exact hi
 rcases h.own.2 with ⟨_, e2⟩ | ⟨g, cap, cur, e1, e2, e3, e4, e5, e6, e7⟩
 ·omega
 ·injection e1 with e1 _ _
  refine ⟨g, e1, e2, ⟨cur, e3⟩, ?_⟩
  rw [blk_cell e3]
  have h1 : (cur.toList.take (rs.length * 1))[i]? = some (hdr (gs.getD i 0)) := by
   rw [e7, List.getElem?_map, List.getD_eq_getElem?_getD, List.getElem?_eq_getElem hg]; rfl
  rw [List.getElem?_take_of_lt (by omega)] at h1
  rw [← Array.getElem?_toList]
  exact h1
theorem RowsG.inner {w : World} {base : Nat} {v : Value} {gs : List Nat} {rs : List R4} (h : RowsG w base v gs rs) (i : Nat) (hi : i < rs.length) : Kd.C (Kd.int .i64) w (some ⟨gs.getD i 0, 0, none⟩) 4 (rs.getD i z4).l := by
 have hb := (h.blk i hi).1
 refine Kd.C_of_reads (d := (0 : Int)) (h1 := fun _ => rfl) ⟨rfl, by decide, fun _ => ⟨_, rfl, fun j hj => ?_⟩⟩
 rw [add_plain, blk_cell hb]
 match j, hj with
 | 0, _ => rfl
 | 1, _ => rfl
 | 2, _ => rfl
 | 3, _ => rfl
theorem hdr_slice (g : Nat) (r : R4) : hdr g = .slice (some ⟨g, 0, none⟩) r.l.length 4 := rfl
set_option maxHeartbeats 16000000 in
set_option maxRecDepth 100000 in
theorem eqSS (k : Nat) (rs : List R4) (hk : ∀ i, i < rs.length → laws_eqInt64S.f k (rs.getD i z4).l (rs.getD i z4).l = some true) (hn : rs.length ≤ 1048576) {b1 b2 : Nat} {A1 A2 : Option Addr} {c1 c2 : Nat} {gs1 gs2 : List Nat} (w : World) (h1 : RowsG w b1 (.slice A1 rs.length c1) gs1 rs) (h2 : RowsG w b2 (.slice A2 rs.length c2) gs2 rs) :
  Calls Try.prog 8 #[.slice A1 rs.length c1, .slice A2 rs.length c2] w fun e w' => e = .returned (.bool true) ∧ Below w.heap.size w w' := by
 have H1 := Aside0.mk h1
 have H2 := Aside0.mk h2
 have HK := Aside0.mk hk
 have HN := Aside0.mk hn
 clear h1 h2 hk hn
 go_enter Try.func8, Try.ntmps8
 go_wp2_with fail
 have B0 := Aside0.mk (Below.refl w.heap.size w)
 go_loopg [5] rs.length (fun gg v5 wr => ∃ i : Nat, i ≤ rs.length ∧ rs.length - i ≤ gg ∧ v5 = .int .i64 i ∧ Aside0 (Below w.heap.size w wr))
 case atStart => exact ⟨0, Nat.zero_le _, by omega, rfl, B0⟩
 case round =>
  clear B0
  rename World => wr
  obtain ⟨i, hi, hg, rfl, B⟩ := hrel
  by_cases c : i < rs.length
  ·have q1 : decide ((i : Int) < (rs.length : Int)) = true := decide_eq_true (by omega)
   have q2 : decide ((0 : Int) ≤ (i : Int)) = true := decide_eq_true (by omega)
   obtain ⟨g1, e1, hb1, _, hc1⟩ := (H1.out.below B.out).at i c
   obtain ⟨g2, e2, hb2, _, hc2⟩ := (H2.out.below B.out).at i c
   subst e1 e2
   unfold hdr at hc1 hc2
   obtain ⟨x1, hx1⟩ : ∃ x, x = gs1.getD i 0 := ⟨_, rfl⟩
   obtain ⟨x2, hx2⟩ : ∃ x, x = gs2.getD i 0 := ⟨_, rfl⟩
   have C1 := Aside0.mk ((H1.out.below B.out).inner i c)
   have C2 := Aside0.mk ((H2.out.below B.out).inner i c)
   rw [← hx1] at hc1 C1
   rw [← hx2] at hc2 C2
   have wi : wrap64 ((i : Int) + 1) = ((i + 1 : Nat) : Int) := by have := HN.out; unfold wrap64; omega
   have WI := Aside0.mk wi
   have HKI := Aside0.mk (HK.out i c)
   clear wi hx1 hx2
   go_upto_region 6 with fail
   go_region_with (go_at_call 23; refine (laws_eqInt64S.calls k _ 4 (rs.getD i z4).l _ 4 (rs.getD i z4).l true _ (by repeat (first | exact C1.out | (with_reducible refine Kd.C_drewN ?_ _) | (with_reducible refine Kd.C_drew ?_))) (Nat.le_refl _) (by repeat (first | exact C2.out | (with_reducible refine Kd.C_drewN ?_ _) | (with_reducible refine Kd.C_drew ?_))) (Nat.le_refl _) HKI.out).mono ?_; rintro e u1 ⟨rfl, nd, rfl⟩)
   all_goals go_wp2_with fail
   all_goals go_roundg (gk - 1)
   all_goals (first | omega | exact ⟨i + 1, by omega, by omega, by first | rfl | (rw [WI.out]), ⟨by repeat (first | exact B.out | (with_reducible refine pw_below_drewN ?_ _) | (with_reducible refine below_drew ?_))⟩⟩)
  ·obtain rfl : i = rs.length := by omega
   have q1 : decide ((rs.length : Int) < (rs.length : Int)) = false := decide_eq_false (by omega)
   go_wp2_with fail
   go_ret
   exact ⟨rfl, B.out⟩
set_option maxHeartbeats 16000000 in
set_option maxRecDepth 100000 in
theorem heldSS (k : Nat) (rs : List R4) (M : Nat → Int) (hk : ∀ i, i < rs.length → laws_heldInt64S.f k (rs.getD i z4).l (M i) = some (M (i + 1))) (hM : ∀ i, 0 ≤ M i) (hn : rs.length ≤ 1048576) {b1 : Nat} {A1 : Option Addr} {c1 : Nat} {gs1 : List Nat} (w : World) (h1 : RowsG w b1 (.slice A1 rs.length c1) gs1 rs) :
  Calls Try.prog 12 #[.slice A1 rs.length c1, .int .i64 (M 0)] w fun e w' => e = .returned (.int .i64 (M rs.length)) ∧ Below w.heap.size w w' := by
 have H1 := Aside0.mk h1
 have HK := Aside0.mk hk
 have HM := Aside0.mk hM
 have HN := Aside0.mk hn
 clear h1 hk hn hM
 go_enter Try.func12, Try.ntmps12
 go_wp2_with fail
 have B0 := Aside0.mk (Below.refl w.heap.size w)
 go_loopg [1, 5] rs.length (fun gg v1 v5 wr => ∃ i : Nat, i ≤ rs.length ∧ rs.length - i ≤ gg ∧ v1 = .int .i64 (M i) ∧ v5 = .int .i64 i ∧ Aside0 (Below w.heap.size w wr))
 case atStart => exact ⟨0, Nat.zero_le _, by omega, rfl, rfl, B0⟩
 case round =>
  clear B0
  rename World => wr
  obtain ⟨i, hi, hg, rfl, rfl, B⟩ := hrel
  by_cases c : i < rs.length
  ·have q1 : decide ((i : Int) < (rs.length : Int)) = true := decide_eq_true (by omega)
   have q2 : decide ((0 : Int) ≤ (i : Int)) = true := decide_eq_true (by omega)
   have q3 : decide (M (i + 1) < 0) = false := decide_eq_false (by have := HM.out (i + 1); omega)
   obtain ⟨g1, e1, hb1, _, hc1⟩ := (H1.out.below B.out).at i c
   subst e1
   unfold hdr at hc1
   obtain ⟨x1, hx1⟩ : ∃ x, x = gs1.getD i 0 := ⟨_, rfl⟩
   have C1 := Aside0.mk ((H1.out.below B.out).inner i c)
   rw [← hx1] at hc1 C1
   have wi : wrap64 ((i : Int) + 1) = ((i + 1 : Nat) : Int) := by have := HN.out; unfold wrap64; omega
   have WI := Aside0.mk wi
   have HKI := Aside0.mk (HK.out i c)
   clear wi hx1
   go_wp2_with (go_at_call 27; refine (laws_heldInt64S.calls k _ 4 (rs.getD i z4).l (M i) (M (i + 1)) _ C1.out (Nat.le_refl _) HKI.out).mono ?_; rintro e u1 ⟨rfl, hb⟩; have B2 := Aside0.mk (B.out.trans (hb.below.mono B.out.size)); clear hb)
   go_roundg (gk - 1)
   all_goals (first | omega | exact ⟨i + 1, by omega, by omega, rfl, by first | rfl | (rw [WI.out]), B2⟩)
  ·obtain rfl : i = rs.length := by omega
   have q1 : decide ((rs.length : Int) < (rs.length : Int)) = false := decide_eq_false (by omega)
   go_wp2_with fail
   go_ret
   exact ⟨rfl, B.out⟩
theorem encs4 (r : R4) : encs (Value.int .i64) r.l = r.cells.toList := rfl
/-- A row's block, as a row of numbers of one's own. -/
theorem R_block {w : World} {base g : Nat} {r : R4} (h : w.heap[g]? = some (.cells r.cells 2 (0, 0))) (hb : base ≤ g) : Kd.R (Kd.int .i64) 2 w base (fun k => k = g) (hdr g) r.l :=
 Kd.R_of_own (enc := Value.int .i64) (h1 := fun _ => rfl) ⟨rfl, .inr ⟨g, 4, r.cells, rfl, hb, h, Nat.le_refl _, by decide, rfl, rfl⟩⟩ (fun k hk => by simpa [hdr, Value.ownBlock] using hk.symm)
theorem block_R {w : World} {base g : Nat} {ok : Nat → Prop} {r : R4} (h : Kd.R (Kd.int .i64) 2 w base ok (hdr g) r.l) : w.heap[g]? = some (.cells r.cells 2 (0, 0)) := by
 obtain ⟨inner, ho⟩ := Kd.R_own h
 have hC := (Kd.R_reads' h).2.2
 rcases ho.2 with ⟨e1, _⟩ | ⟨g', cap, cur, e1, e2, e3, e4, e5, e6, e7⟩
 ·cases e1
 ·injection e1 with e1 e8 e9
  injection e1 with e1
  injection e1 with e1
  subst e1 e9
  have hcur : cur = r.cells := by
   have hs : cur.size = 4 := e6
   have key : ∀ j : Nat, j < 4 → cur[j]? = r.cells[j]? := fun j hj => by
    have hr := (Kd.reads_of_C (enc := Value.int .i64) (d := (0 : Int)) (h1 := fun _ => rfl) hC).2.2 (show 0 < 4 by decide)
    obtain ⟨ad, ea, hc⟩ := hr
    injection ea with ea
    subst ea
    have h1 := hc j hj
    rw [add_plain, blk_cell e3] at h1
    rw [h1]
    match j, hj with
    | 0, _ => rfl
    | 1, _ => rfl
    | 2, _ => rfl
    | 3, _ => rfl
   apply Array.ext (by rw [hs]; rfl)
   intro j hj1 hj2
   have := key j (by omega)
   rw [Array.getElem?_eq_getElem hj1, Array.getElem?_eq_getElem hj2] at this
   exact Option.some.inj this
  rw [← hcur]
  exact e3
theorem RowsG.put {w w2 : World} {base : Nat} {v : Value} {gs : List Nat} {rs : List R4} (h : RowsG w base v gs rs) (i : Nat) (hi : i < rs.length) (r : R4) (hb : w2.heap[gs.getD i 0]? = some (.cells r.cells 2 (0, 0))) (hk : Kept w w2 (fun k => k = gs.getD i 0)) : RowsG w2 base v gs (rs.set i r) := by
 have hg : i < gs.length := by rw [h.len]; exact hi
 refine ⟨by rw [List.length_set]; exact h.len, ?_, h.nd, fun j hj => ?_⟩
 ·rw [List.length_set]
  obtain ⟨o1, o2⟩ := h.own
  refine ⟨o1, ?_⟩
  rcases o2 with o2 | ⟨g, cap, cur, e1, e2, e3, e4⟩
  ·exact .inl o2
  ·refine .inr ⟨g, cap, cur, e1, e2, ?_, e4⟩
   rw [hk.2 g (blk_lt e3) (fun e => by
    have := (h.blk i hi).1
    rw [← e, e3] at this
    injection this with this
    injection this with _ this
    cases this)]
   exact e3
 ·rw [List.length_set] at hj
  by_cases c : j = i
  ·subst c
   refine ⟨?_, (h.blk j hj).2⟩
   rw [hb, List.getD_eq_getElem?_getD, List.getElem?_set_self hj]; rfl
  ·refine ⟨?_, (h.blk j hj).2⟩
   have hjg : j < gs.length := by rw [h.len]; exact hj
   have hb2 := (h.blk j hj).1
   rw [hk.2 _ (blk_lt hb2) (fun e => c ?_), hb2, List.getD_eq_getElem?_getD, List.getD_eq_getElem?_getD, List.getElem?_set_ne (Ne.symm c)]
   rw [List.getD_eq_getElem?_getD, List.getD_eq_getElem?_getD, List.getElem?_eq_getElem hjg, List.getElem?_eq_getElem hg] at e
   have e' : gs[j] = gs[i] := e
   rcases Nat.lt_trichotomy j i with q | q | q
   ·exact absurd e' (List.pairwise_iff_getElem.1 h.nd j i hjg hg q)
   ·exact q
   ·exact absurd e'.symm (List.pairwise_iff_getElem.1 h.nd i j hg hjg q)
theorem mix_get (rs ts : List R4) (hl : ts.length = rs.length) (i : Nat) (hi : i < rs.length) : (ts.take i ++ rs.drop i).getD i z4 = rs.getD i z4 := by
 have h1 : (ts.take i).length = i := by rw [List.length_take]; omega
 rw [List.getD_eq_getElem?_getD, List.getElem?_append_right (by omega), h1, Nat.sub_self, List.getElem?_drop, Nat.add_zero, List.getD_eq_getElem?_getD]
theorem mix_set (rs ts : List R4) (hl : ts.length = rs.length) (i : Nat) (hi : i < rs.length) : (ts.take i ++ rs.drop i).set i (ts.getD i z4) = ts.take (i + 1) ++ rs.drop (i + 1) := by
 have h1 : (ts.take i).length = i := by rw [List.length_take]; omega
 have ht : i < ts.length := by omega
 have e : ts.getD i z4 = ts[i] := by rw [List.getD_eq_getElem?_getD, List.getElem?_eq_getElem ht]; rfl
 rw [List.set_append_right _ _ (by omega), h1, Nat.sub_self, List.drop_eq_getElem_cons hi, List.set_cons_zero, e, List.take_succ_eq_append_getElem ht, List.append_assoc]
 rfl
theorem mix_len (rs ts : List R4) (hl : ts.length = rs.length) (i : Nat) (hi : i ≤ rs.length) : (ts.take i ++ rs.drop i).length = rs.length := by
 rw [List.length_append, List.length_take, List.length_drop]; omega
set_option maxHeartbeats 16000000 in
set_option maxRecDepth 100000 in
theorem markSS (k : Nat) (rs ts : List R4) (M : Nat → Int) (hl : ts.length = rs.length) (hk : ∀ i, i < rs.length → laws_markInt64S.f k (rs.getD i z4).l (M i) = some (M (i + 1), (ts.getD i z4).l)) (hn : rs.length ≤ 1048576) {A1 : Option Addr} {c1 : Nat} {gs1 : List Nat} (w0 w : World) (h1 : RowsG w w0.heap.size (.slice A1 rs.length c1) gs1 rs) (hB : Below w0.heap.size w0 w) :
  Calls Try.prog 11 #[.slice A1 rs.length c1, .int .i64 (M 0)] w fun e w' => e = .returned (.int .i64 (M rs.length)) ∧ RowsG w' w0.heap.size (.slice A1 rs.length c1) gs1 ts ∧ Below w0.heap.size w0 w' := by
 have H1 := Aside0.mk h1
 have HK := Aside0.mk hk
 have HN := Aside0.mk hn
 have HB := Aside0.mk hB
 have HL := Aside0.mk hl
 clear h1 hk hn hB hl
 go_enter Try.func11, Try.ntmps11
 go_wp2_with fail
 go_loopg [1, 5] rs.length (fun gg v1 v5 wr => ∃ i : Nat, i ≤ rs.length ∧ rs.length - i ≤ gg ∧ v1 = .int .i64 (M i) ∧ v5 = .int .i64 i ∧ Aside0 (RowsG wr w0.heap.size (.slice A1 rs.length c1) gs1 (ts.take i ++ rs.drop i)) ∧ Aside0 (Below w0.heap.size w0 wr))
 case atStart => exact ⟨0, Nat.zero_le _, by omega, rfl, rfl, H1, HB⟩
 case round =>
  clear H1 HB
  rename World => wr
  obtain ⟨i, hi, hg, rfl, rfl, H1, B⟩ := hrel
  by_cases c : i < rs.length
  ·have q1 : decide ((i : Int) < (rs.length : Int)) = true := decide_eq_true (by omega)
   have q2 : decide ((0 : Int) ≤ (i : Int)) = true := decide_eq_true (by omega)
   have hml := mix_len rs ts HL.out i hi
   have H1' : RowsG wr w0.heap.size (.slice A1 (ts.take i ++ rs.drop i).length c1) gs1 (ts.take i ++ rs.drop i) := by rw [hml]; exact H1.out
   obtain ⟨g1, e1, hb1, _, hc1⟩ := H1'.at i (by omega)
   subst e1
   unfold hdr at hc1
   have hblk := H1.out.blk i (by omega)
   rw [mix_get rs ts HL.out i c] at hblk
   have R1 := Aside0.mk (R_block hblk.1 hblk.2)
   unfold hdr at R1
   have wi : wrap64 ((i : Int) + 1) = ((i + 1 : Nat) : Int) := by have := HN.out; unfold wrap64; omega
   have WI := Aside0.mk wi
   have HKI := Aside0.mk (HK.out i c)
   clear wi hml H1' hblk
   go_wp2_with (go_at_call 26; refine (laws_markInt64S.calls k (fun k => k = gs1.getD i 0) _ (rs.getD i z4).l (M i) (M (i + 1)) (ts.getD i z4).l w0 wr B.out R1.out HKI.out).mono ?_; rintro e u1 ⟨rfl, hR, hb, hkp⟩; have H2 := Aside0.mk (H1.out.put i (by rw [mix_len rs ts HL.out i hi]; exact c) (ts.getD i z4) (block_R hR) hkp); have B2 := Aside0.mk hb; clear hb hR hkp)
   go_roundg (gk - 1)
   all_goals (first | omega | exact ⟨i + 1, by omega, by omega, rfl, by first | rfl | (rw [WI.out]), by (rw [← mix_set rs ts HL.out i c]; exact H2), B2⟩)
  ·obtain rfl : i = rs.length := by omega
   have q1 : decide ((rs.length : Int) < (rs.length : Int)) = false := decide_eq_false (by omega)
   have hm : ts.take rs.length ++ rs.drop rs.length = ts := by rw [List.take_of_length_le (by have := HL.out; omega), List.drop_length, List.append_nil]
   have H3 : Aside0 (RowsG wr w0.heap.size (.slice A1 rs.length c1) gs1 ts) := by rw [← hm]; exact H1
   clear hm
   go_wp2_with fail
   go_ret
   exact ⟨rfl, H3.out, B.out⟩
/-! ### What is counted -/
def addR (m : Int) (r : R4) (x : S44) : R4 := if x.f1 = m then ⟨r.a, wrap64 (r.b + 1), if x.f5 = true then wrap64 (r.c + 1) else r.c, wrap64 (r.d + (x.f7.length : Int))⟩ else r
def rowS (m : Int) (l : List S44) (i : Nat) : R4 := (l.take i).foldl (addR m) ⟨m, 0, 0, 0⟩
theorem rowS_succ (m : Int) (l : List S44) (i : Nat) (hi : i < l.length) : rowS m l (i + 1) = addR m (rowS m l i) (l.getD i z44) := by
 unfold rowS
 rw [List.take_succ_eq_append_getElem hi, List.foldl_append, List.getD_eq_getElem?_getD, List.getElem?_eq_getElem hi]
 rfl
theorem emptyI {W : World} {base g : Nat} (ok : Nat → Prop) (hok : ok g) (hb : base ≤ g) (hblk : W.heap[g]? = some (.cells #[] 2 (0, 0))) : Kd.R (Kd.int .i64) 2 W base ok (.slice (some ⟨g, 0, none⟩) 0 0) [] :=
 ⟨fun k hk => (show g = k from by simpa [Value.ownBlock] using hk) ▸ hok, [], ⟨rfl, .inr ⟨g, 0, #[], rfl, hb, hblk, Nat.le_refl _, by decide, rfl, rfl⟩⟩, ⟨rfl, fun j p hj => by cases hj⟩⟩
theorem at_I {w : World} {A : Option Addr} {n : Nat} {xs : List Int} (h : Kd.C (Kd.int .i64) w A n xs) (i : Nat) (hi : i < n) : ∃ ad, A = some ad ∧ w.cell? (ad.add i) = some (.int .i64 (xs.getD i 0)) := by
 obtain ⟨ad, c, e, _, hK, hc0⟩ := Kd.C_get h (0 : Int) (i : Int) (by omega) (by omega)
 obtain rfl := hK
 have hq := hc0 0 _ rfl
 refine ⟨ad, e, ?_⟩
 rw [Int.toNat_natCast] at hq
 have hq2 : w.cell? (ad.add (i * 1 + 0)) = some (.int .i64 (xs.getD i 0)) := hq
 rwa [Nat.mul_one, Nat.add_zero] at hq2
theorem blk_putF {W : World} {g : Nat} {cs : Array Value} {t : TypeId} {fr : Nat × Nat} (h : W.heap[g]? = some (.cells cs t fr)) (i : Nat) (v : Value) : (W.setCell ⟨g, i, none⟩ v).heap[g]? = some (.cells (cs.setIfInBounds i v) t fr) := by
 simp [World.setCell, Array.getElem?_modify, h]
theorem RowsG.lower {w : World} {base base' : Nat} {v : Value} {gs : List Nat} {rs : List R4} (h : RowsG w base v gs rs) (hb : base' ≤ base) : RowsG w base' v gs rs := by
 refine ⟨h.len, ⟨h.own.1, ?_⟩, h.nd, fun i hi => ⟨(h.blk i hi).1, Nat.le_trans hb (h.blk i hi).2⟩⟩
 rcases h.own.2 with o | ⟨g, cap, cur, e1, e2, e3⟩
 ·exact .inl o
 ·exact .inr ⟨g, cap, cur, e1, Nat.le_trans hb e2, e3⟩
theorem RowsG.form' {w : World} {base : Nat} {v : Value} {gs : List Nat} {rs : List R4} (h : RowsG w base v gs rs) : ∃ A n c, v = .slice A n c ∧ n = rs.length := by
 obtain ⟨A, c, e, _⟩ := h.form
 exact ⟨A, rs.length, c, e, rfl⟩
theorem RowsG.empty {W : World} {base g : Nat} (hb : base ≤ g) (hblk : W.heap[g]? = some (.cells #[] 41 (0, 0))) : RowsG W base (.slice (some ⟨g, 0, none⟩) 0 0) [] [] :=
 ⟨rfl, ⟨rfl, .inr ⟨g, 0, #[], rfl, hb, hblk, Nat.le_refl _, by decide, rfl, rfl⟩⟩, List.nodup_nil, fun i hi => by cases hi⟩
theorem RowsG.notown {w : World} {base : Nat} {v : Value} {gs : List Nat} {rs : List R4} (h : RowsG w base v gs rs) {k : Nat} {cs : Array Value} (hk : w.heap[k]? = some (.cells cs 2 (0, 0))) : some k ≠ v.ownBlock := by
 intro e
 rcases h.own.2 with ⟨e1, _⟩ | ⟨g, cap, cur, e1, _, e3, _⟩
 ·rw [e1] at e; cases e
 ·rw [e1] at e
  have e' : k = g := by simpa [Value.ownBlock] using e
  rw [e', e3] at hk
  injection hk with hk
  injection hk with _ hk
  cases hk
theorem getD_snoc_lt {α : Type} {l : List α} {x z : α} {i : Nat} (h : i < l.length) : (l ++ [x]).getD i z = l.getD i z := by
 rw [List.getD_eq_getElem?_getD, List.getElem?_append_left h, List.getD_eq_getElem?_getD]
theorem getD_snoc_eq {α : Type} {l : List α} {x z : α} {i : Nat} (h : i = l.length) : (l ++ [x]).getD i z = x := by
 rw [List.getD_eq_getElem?_getD, h, List.getElem?_append_right (Nat.le_refl _), Nat.sub_self]; rfl
theorem RowsG.snoc {w w2 : World} {base : Nat} {v v1 : Value} {gs : List Nat} {rs : List R4} (h : RowsG w base v gs rs) (g : Nat) (r : R4) (hg : w.heap[g]? = some (.cells r.cells 2 (0, 0))) (hb : base ≤ g) (hn : g ∉ gs) (ho : w2.ownsRow base 41 1 v1 (gs.map hdr ++ [hdr g]).length (gs.map hdr ++ [hdr g])) (hgr : w.grownBy w2 v.ownBlock) : RowsG w2 base v1 (gs ++ [g]) (rs ++ [r]) := by
 refine ⟨by rw [List.length_append, List.length_append, h.len]; rfl, ?_, ?_, fun i hi => ?_⟩
 ·rw [List.map_append, List.length_append, ← h.len]
  rw [List.length_append, List.length_map] at ho
  exact ho
 ·rw [List.nodup_append]
  exact ⟨h.nd, List.nodup_cons.2 ⟨by simp, List.nodup_nil⟩, fun a ha b hb e => hn (by rw [List.mem_singleton.1 hb] at e; rw [← e]; exact ha)⟩
 ·rw [List.length_append, List.length_singleton] at hi
  by_cases c : i < rs.length
  ·rw [getD_snoc_lt (by rw [h.len]; exact c), getD_snoc_lt c]
   obtain ⟨h1, h2⟩ := h.blk i c
   exact ⟨blk_grown h1 hgr (h.notown h1), h2⟩
  ·have e : i = rs.length := by omega
   rw [getD_snoc_eq (by rw [h.len]; exact e), getD_snoc_eq e]
   exact ⟨blk_grown hg hgr (h.notown hg), hb⟩
theorem RowsG.lt {w : World} {base : Nat} {v : Value} {gs : List Nat} {rs : List R4} (h : RowsG w base v gs rs) : ∀ g ∈ gs, g < w.heap.size := by
 intro g hg
 obtain ⟨i, hi, rfl⟩ := List.mem_iff_getElem.1 hg
 have hr : i < rs.length := by rw [← h.len]; exact hi
 have := blk_lt (h.blk i hr).1
 rwa [List.getD_eq_getElem?_getD, List.getElem?_eq_getElem hi] at this
set_option maxHeartbeats 16000000 in
set_option maxRecDepth 100000 in
theorem specCO (k : Nat) (a0 : Int) (A : Option Addr) (cA : Nat) (l : List S44) (mem : Nat → List Int) (w : World) (hr : Kd.C k44 w A l.length l) (hc : l.length ≤ cA) (his : spec_l03Is.f k a0 l = some true) (hm0 : mem 0 = []) (hm : ∀ i, i < l.length → spec_l00Put.f k (mem i) (l.getD i z44).f1 = some (mem (i + 1))) (hn : l.length ≤ 1048576) (hml : (mem l.length).length ≤ 1048576) :
  Calls Try.prog 5 #[.agg #[.int .i64 a0, .slice A l.length cA]] w fun e w' => ∃ v gs, e = .returned (.tuple #[v, .bool true]) ∧ RowsG w' w.heap.size v gs ((mem l.length).map fun m => rowS m l l.length) ∧ Below w.heap.size w w' := by
 have HR := Aside0.mk hr
 have HC := Aside0.mk hc
 have HI := Aside0.mk his
 have HM := Aside0.mk hm
 have HN := Aside0.mk hn
 have HL := Aside0.mk hml
 clear hr hc his hm hn hml
 go_enter Try.func5, Try.ntmps5
 have K0 := Aside0.mk (heap_alloc_new w (.cells #[.int .i64 a0, .slice A l.length cA] 31))
 have B0 := Aside0.mk (below_alloc (Below.refl w.heap.size w) (.cells #[.int .i64 a0, .slice A l.length cA] 31))
 go_upto_region 3 with (go_at_call 14; refine (spec_l03Is.calls k ⟨w.heap.size, 0, none⟩ a0 A cA l true _ (RP.of_block K0.out) (Kd.C_below HR.out B0.out) HC.out HI.out).mono ?_; rintro e w1 ⟨rfl, hb⟩; have K1 := Aside0.mk (blk_bel K0.out hb.below); have B1 := Aside0.mk (B0.out.trans (hb.below.mono B0.out.size)); clear hb)
 clear K0 B0
 obtain ⟨gl, hgl⟩ : ∃ gl, gl = w.heap.size := ⟨_, rfl⟩
 rw [← hgl] at K1
 try rw [← hgl]
 have GL : Aside0 (w.heap.size ≤ gl) := ⟨by omega⟩
 clear hgl
 go_upto_region 4 with fail
 obtain ⟨W2, hW2⟩ : ∃ W2, W2 = w1.alloc (.cells #[] 2) := ⟨_, rfl⟩
 obtain ⟨gm, hgm⟩ : ∃ gm, gm = w1.heap.size := ⟨_, rfl⟩
 have B2 : Aside0 (Below w.heap.size w W2) := ⟨by rw [hW2]; exact below_alloc B1.out _⟩
 have K2 : Aside0 (W2.heap[gl]? = some (.cells #[.int .i64 a0, .slice A l.length cA] 31 (0, 0))) := ⟨by rw [hW2]; exact blk_bel K1.out (below_alloc (Below.refl _ _) _)⟩
 have R2 : Aside0 (Kd.R (Kd.int .i64) 2 W2 w.heap.size (fun _ => True) (.slice (some ⟨gm, 0, none⟩) 0 0) (mem 0)) := ⟨by rw [hW2, hgm, hm0]; exact emptyI _ trivial B1.out.size (heap_alloc_new w1 _)⟩
 try rw [← hW2]
 try rw [← hgm]
 clear hW2 hgm B1 K1 hm0
 have hl1 : W2.cell? ⟨gl, 1, none⟩ = some (.slice A l.length cA) := (blk_cell K2.out 1).trans rfl
 go_wp2_with fail
 go_loopg [4, 17] l.length (fun gg v4 v17 wr => ∃ i : Nat, i ≤ l.length ∧ l.length - i ≤ gg ∧ v17 = .int .i64 i ∧ Aside0 (Kd.R (Kd.int .i64) 2 wr w.heap.size (fun _ => True) v4 (mem i)) ∧ Aside0 (wr.heap[gl]? = some (.cells #[.int .i64 a0, .slice A l.length cA] 31 (0, 0))) ∧ Aside0 (Below w.heap.size w wr))
 case atStart => exact ⟨0, Nat.zero_le _, by omega, rfl, R2, K2, B2⟩
 case round =>
  clear hl1 R2 K2 B2
  rename World => wr
  obtain ⟨i, hi, hgi, rfl, RM, KL, B⟩ := hrel
  obtain ⟨Am, cm, em⟩ := Kd.R_slice RM.out
  subst em
  have hl1 : wr.cell? ⟨gl, 1, none⟩ = some (.slice A l.length cA) := (blk_cell KL.out 1).trans rfl
  by_cases c : i < l.length
  ·have q1 : decide ((i : Int) < (l.length : Int)) = true := decide_eq_true (by omega)
   have q2 : decide ((0 : Int) ≤ (i : Int)) = true := decide_eq_true (by omega)
   obtain ⟨ad, A7, c7, ea, hx0, hx1, hx2, hx3, hx4, hx5, hx6, hx7, _, _⟩ := at_T44 (Kd.C_below HR.out B.out) (i : Int) (by omega) (by omega)
   subst ea
   simp only [Int.toNat_natCast] at hx1
   have e44 : rd_T44 l (i : Int) = l.getD i z44 := by unfold rd_T44; rw [Int.toNat_natCast]
   rw [e44] at hx1
   have hmi := HM.out i c
   obtain ⟨x, hx⟩ : ∃ x, x = l.getD i z44 := ⟨_, rfl⟩
   rw [← hx] at hx1 hmi
   have HMI := Aside0.mk hmi
   have wi : wrap64 ((i : Int) + 1) = ((i + 1 : Nat) : Int) := by have := HN.out; unfold wrap64; omega
   have WI := Aside0.mk wi
   clear wi e44 hx hmi hx0 hx2 hx3 hx4 hx5 hx6 hx7
   go_wp2_with (go_at_call 15; refine (spec_l00Put.calls k Am cm (mem i) x.f1 (mem (i + 1)) wr (Kd.R_reads' RM.out).2.2 (Kd.R_reads' RM.out).2.1 HMI.out).mono ?_; rintro e w3 ⟨v, rfl, hR, hb⟩; have R3 := Aside0.mk (Kd.R_lower hR B.out.size); have K3 := Aside0.mk (blk_bel KL.out hb); have B3 := Aside0.mk (B.out.trans (hb.mono B.out.size)); clear hR hb)
   go_roundg (gk - 1)
   all_goals (first | omega | exact ⟨i + 1, by omega, by omega, by first | rfl | (rw [WI.out]), R3, K3, B3⟩)
  ·obtain rfl : i = l.length := by omega
   have q1 : decide ((l.length : Int) < (l.length : Int)) = false := decide_eq_false (by omega)
   obtain ⟨ms, hms⟩ : ∃ ms, ms = mem l.length := ⟨_, rfl⟩
   have CM : Aside0 (Kd.C (Kd.int .i64) wr Am ms.length ms) := ⟨by rw [hms]; exact (Kd.R_reads' RM.out).2.2⟩
   have LM : Aside0 (ms.length ≤ 1048576) := ⟨by rw [hms]; exact HL.out⟩
   rw [← hms]
   have HMS := Aside0.mk hms
   clear hms RM HL HM
   go_upto_region 10 with fail
   obtain ⟨W3, hW3⟩ : ∃ W3, W3 = wr.alloc (.cells #[] 41) := ⟨_, rfl⟩
   obtain ⟨go, hgo⟩ : ∃ go, go = wr.heap.size := ⟨_, rfl⟩
   have B3 : Aside0 (Below wr.heap.size wr W3) := ⟨by rw [hW3]; exact below_alloc (Below.refl _ _) _⟩
   have R3 : Aside0 (RowsG W3 wr.heap.size (.slice (some ⟨go, 0, none⟩) 0 0) [] ((ms.take 0).map fun m => rowS m l l.length)) := ⟨by rw [hW3, hgo]; exact RowsG.empty (Nat.le_refl _) (heap_alloc_new wr _)⟩
   try rw [← hW3]
   try rw [← hgo]
   clear hW3 hgo hl1
   go_wp2_with fail
   go_loopg [6, 32] ms.length (fun gg v6 v32 wq => ∃ (j : Nat) (gs : List Nat), j ≤ ms.length ∧ ms.length - j ≤ gg ∧ v32 = .int .i64 j ∧ Aside0 (RowsG wq wr.heap.size v6 gs ((ms.take j).map fun m => rowS m l l.length)) ∧ Aside0 (Below wr.heap.size wr wq))
   case atStart => exact ⟨0, [], Nat.zero_le _, by omega, rfl, R3, B3⟩
   case round =>
    clear R3 B3
    rename World => wq
    obtain ⟨j, gs, hj, hgj, rfl, RO, BQ⟩ := hrel
    obtain ⟨Ao, no, co, eo, hno⟩ := RO.out.form'
    subst eo
    have HNO := Aside0.mk hno
    clear hno
    by_cases cj : j < ms.length
    ·have q1 : decide ((j : Int) < (ms.length : Int)) = true := decide_eq_true (by omega)
     have q2 : decide ((0 : Int) ≤ (j : Int)) = true := decide_eq_true (by omega)
     obtain ⟨am, eam, hma⟩ := at_I (Kd.C_below CM.out BQ.out) j cj
     subst eam
     obtain ⟨mz, hmz⟩ : ∃ mz, mz = ms.getD j 0 := ⟨_, rfl⟩
     rw [← hmz] at hma
     have KL2 := Aside0.mk (blk_bel KL.out BQ.out)
     have wj : wrap64 ((j : Int) + 1) = ((j + 1 : Nat) : Int) := by have := LM.out; unfold wrap64; omega
     have WJ := Aside0.mk wj
     have HMZ := Aside0.mk hmz
     clear wj hmz
     go_upto_region 14 with fail
     obtain ⟨gko, hgko⟩ : ∃ g, g = gk := ⟨_, rfl⟩
     obtain ⟨W4, hW4⟩ : ∃ W4, W4 = wq.alloc (.cells #[.int .i64 mz, .int .i64 0, .int .i64 0, .int .i64 0] 2) := ⟨_, rfl⟩
     obtain ⟨gr, hgr⟩ : ∃ gr, gr = wq.heap.size := ⟨_, rfl⟩
     have B4 : Aside0 (Below wq.heap.size wq W4) := ⟨by rw [hW4]; exact below_alloc (Below.refl _ _) _⟩
     have KR : Aside0 (W4.heap[gr]? = some (.cells (rowS mz l 0).cells 2 (0, 0))) := ⟨by rw [hW4, hgr]; exact heap_alloc_new wq _⟩
     have GR : Aside0 (gr = wq.heap.size) := ⟨hgr⟩
     try rw [← hW4]
     try rw [← hgr]
     clear hW4 hgr hma
     have hl1 : W4.cell? ⟨gl, 1, none⟩ = some (.slice A l.length cA) := (blk_cell (blk_bel KL2.out B4.out) 1).trans rfl
     go_wp2_with fail
     clear hl1
     go_loopg [43] l.length (fun gg v43 w5 => ∃ i : Nat, i ≤ l.length ∧ l.length - i ≤ gg ∧ v43 = .int .i64 i ∧ Aside0 (w5.heap[gr]? = some (.cells (rowS mz l i).cells 2 (0, 0))) ∧ Aside0 (Below wq.heap.size wq w5))
     case atStart => exact ⟨0, Nat.zero_le _, by omega, rfl, KR, B4⟩
     case round =>
      clear KR B4
      rename World => w5
      obtain ⟨i, hi, hgi, rfl, KR, B5⟩ := hrel
      by_cases ci : i < l.length
      ·have q3 : decide ((i : Int) < (l.length : Int)) = true := decide_eq_true (by omega)
       have q4 : decide ((0 : Int) ≤ (i : Int)) = true := decide_eq_true (by omega)
       have hl1 : w5.cell? ⟨gl, 1, none⟩ = some (.slice A l.length cA) := (blk_cell (blk_bel KL2.out B5.out) 1).trans rfl
       obtain ⟨ad, A7, c7, ea, hx0, hx1, hx2, hx3, hx4, hx5, hx6, hx7, _, _⟩ := at_T44 (Kd.C_below (Kd.C_below (Kd.C_below HR.out B.out) BQ.out) B5.out) (i : Int) (by omega) (by omega)
       subst ea
       simp only [Int.toNat_natCast] at hx0 hx1 hx2 hx3 hx4 hx5 hx6 hx7
       have e44 : rd_T44 l (i : Int) = l.getD i z44 := by unfold rd_T44; rw [Int.toNat_natCast]
       rw [e44] at hx0 hx1 hx2 hx3 hx4 hx5 hx6 hx7
       obtain ⟨x, hx⟩ : ∃ x, x = l.getD i z44 := ⟨_, rfl⟩
       rw [← hx] at hx0 hx1 hx2 hx3 hx4 hx5 hx6 hx7
       have hrs := rowS_succ mz l i ci
       rw [← hx] at hrs
       obtain ⟨r, hr⟩ : ∃ r, r = rowS mz l i := ⟨_, rfl⟩
       rw [← hr] at hrs
       have KR2 : Aside0 (w5.heap[gr]? = some (.cells r.cells 2 (0, 0))) := by rw [hr]; exact KR
       have HRS := Aside0.mk hrs
       have wi : wrap64 ((i : Int) + 1) = ((i + 1 : Nat) : Int) := by have := HN.out; unfold wrap64; omega
       have WI := Aside0.mk wi
       clear KR hr hrs hx wi e44
       go_upto_region 18 with fail
       obtain ⟨W6, hW6⟩ : ∃ W6, W6 = w5.alloc (.cells #[.int .i64 x.f0, .int .i64 x.f1, .int .i64 x.f2, .string x.f3, .int .i64 x.f4, .bool x.f5, .int .i64 x.f6, .slice A7 x.f7.length c7] 44) := ⟨_, rfl⟩
       obtain ⟨gx, hgx⟩ : ∃ gx, gx = w5.heap.size := ⟨_, rfl⟩
       have B6 : Aside0 (Below wq.heap.size wq W6) := ⟨by rw [hW6]; exact below_alloc B5.out _⟩
       have kx : W6.heap[gx]? = some (.cells #[.int .i64 x.f0, .int .i64 x.f1, .int .i64 x.f2, .string x.f3, .int .i64 x.f4, .bool x.f5, .int .i64 x.f6, .slice A7 x.f7.length c7] 44 (0, 0)) := by rw [hW6, hgx]; exact heap_alloc_new w5 _
       have KR6 : Aside0 (W6.heap[gr]? = some (.cells r.cells 2 (0, 0))) := ⟨by rw [hW6]; exact blk_bel KR2.out (below_alloc (Below.refl _ _) _)⟩
       have nex : Aside0 (gx ≠ gr) := ⟨fun e => by have := blk_lt KR2.out; omega⟩
       have hma : W6.cell? (am.add j) = some (.int .i64 mz) := by
        obtain ⟨ad2, e2, e3⟩ := at_I (Kd.C_below (Kd.C_below CM.out BQ.out) B6.out) j cj
        injection e2 with e2
        subst e2
        rw [e3, ← HMZ.out]
       have KX := Aside0.mk kx
       have hy1 : W6.cell? ⟨gx, 1, none⟩ = some (.int .i64 x.f1) := (blk_cell kx 1).trans rfl
       have hy5 : W6.cell? ⟨gx, 5, none⟩ = some (.bool x.f5) := (blk_cell kx 5).trans rfl
       have hy7 : W6.cell? ⟨gx, 7, none⟩ = some (.slice A7 x.f7.length c7) := (blk_cell kx 7).trans rfl
       have hr1 : W6.cell? ⟨gr, 1, none⟩ = some (.int .i64 r.b) := (blk_cell KR6.out 1).trans rfl
       have hr2 : W6.cell? ⟨gr, 2, none⟩ = some (.int .i64 r.c) := (blk_cell KR6.out 2).trans rfl
       have hr3 : W6.cell? ⟨gr, 3, none⟩ = some (.int .i64 r.d) := (blk_cell KR6.out 3).trans rfl
       have hf1 := blk_frozen KR6.out 1
       have hf2 := blk_frozen KR6.out 2
       have hf3 := blk_frozen KR6.out 3
       try rw [← hW6]
       try rw [← hgx]
       clear hW6 hgx hx0 hx1 hx2 hx3 hx4 hx5 hx6 hx7 kx KR2 B5 hl1
       by_cases cx : x.f1 = mz
       ·have e1 : (x.f1 == mz) = true := beq_iff_eq.2 cx
        have HCX := Aside0.mk cx
        have hra : addR mz r x = ⟨r.a, wrap64 (r.b + 1), if x.f5 = true then wrap64 (r.c + 1) else r.c, wrap64 (r.d + (x.f7.length : Int))⟩ := by unfold addR; rw [if_pos cx]
        have HRA := Aside0.mk hra
        clear cx hra
        have hne : gx ≠ gr := nex.out
        have hne2 : gr ≠ gx := fun e => nex.out e.symm
        rcases Bool.eq_false_or_eq_true x.f5 with c5 | c5
        ·have C5 := Aside0.mk c5
         rw [c5] at hy5
         clear c5
         repeat (go_quiet (fail); try go_wp2)
         go_region_with (fail)
         all_goals (go_wp2_with fail)
         all_goals (go_roundg (gk - 1))
         all_goals (first | omega | exact ⟨i + 1, by omega, by omega, by first | rfl | (rw [WI.out]), ⟨by rw [HRS.out, HRA.out]; simp only [C5.out, if_true, Bool.false_eq_true, if_false]; exact blk_putF (blk_putF (blk_putF (show (W6.drewN nq).heap[gr]? = some (.cells r.cells 2 (0, 0)) from KR6.out) 1 _) 2 _) 3 _⟩, ⟨below_drew (below_set (below_set (below_set (pw_below_drewN B6.out _) (Nat.le_of_eq GR.out.symm)) (Nat.le_of_eq GR.out.symm)) (Nat.le_of_eq GR.out.symm))⟩⟩)
        ·have C5 := Aside0.mk c5
         rw [c5] at hy5
         clear c5
         repeat (go_quiet (fail); try go_wp2)
         go_region_with (fail)
         all_goals (go_wp2_with fail)
         all_goals (go_roundg (gk - 1))
         all_goals (first | omega | exact ⟨i + 1, by omega, by omega, by first | rfl | (rw [WI.out]), ⟨by rw [HRS.out, HRA.out]; simp only [C5.out, if_true, Bool.false_eq_true, if_false]; exact blk_putF (blk_putF (show (W6.drewN nq).heap[gr]? = some (.cells r.cells 2 (0, 0)) from KR6.out) 1 _) 3 _⟩, ⟨below_drew (below_set (below_set (pw_below_drewN B6.out _) (Nat.le_of_eq GR.out.symm)) (Nat.le_of_eq GR.out.symm))⟩⟩)
       ·have e1 : (x.f1 == mz) = false := beq_eq_false_iff_ne.2 cx
        have hra : addR mz r x = r := by unfold addR; rw [if_neg cx]
        have KR7 : Aside0 (W6.heap[gr]? = some (.cells (rowS mz l (i + 1)).cells 2 (0, 0))) := by rw [HRS.out, hra]; exact KR6
        clear cx hra
        repeat (go_quiet (fail); try go_wp2)
        go_wp2_with fail
        go_roundg (gk - 1)
        all_goals (first | omega | exact ⟨i + 1, by omega, by omega, by first | rfl | (rw [WI.out]), ⟨KR7.out⟩, ⟨pw_below_drewN B6.out _⟩⟩)
      ·obtain rfl : i = l.length := by omega
       have q3 : decide ((l.length : Int) < (l.length : Int)) = false := decide_eq_false (by omega)
       have RO5 := Aside0.mk (RO.out.below B5.out)
       have OWN : Aside0 (w5.ownsRow wr.heap.size 41 1 (.slice Ao no co) (gs.map hdr).length (gs.map hdr)) := ⟨by rw [List.length_map, RO5.out.len]; exact RO5.out.own⟩
       have BB : Aside0 (Below wr.heap.size wr w5) := ⟨BQ.out.trans (B5.out.mono BQ.out.size)⟩
       have hgl : (gs.map hdr).length ≤ 1048576 := by rw [List.length_map, RO5.out.len, List.length_map, List.length_take]; have := LM.out; omega
       have HGL := Aside0.mk hgl
       have hng : gr ∉ gs := fun hm => by have := RO.out.lt gr hm; rw [GR.out] at this; omega
       have HNG := Aside0.mk hng
       clear hgl hng
       go_wp2_with ((with_reducible refine gate_builtin (b := .append) (xs := #[.tmp 79, .tmp 81]) rfl ?_); at_builtin; refine print_append (w0 := wr) wr.heap.size rfl (.tmp 79) (.tmp 81) 26 41 (.slice none 0 0) 24 rfl Try.underlying26 infoHdr rfl (by decide) (.slice Ao no co) (gs.map hdr) (hdr gr) rfl (by first | (go_simp; done) | (go_simp; rfl)) rfl OWN.out BB.out BB.out.size (by have := HGL.out; omega) ?_; intro v1 w8 ho hb hg hat; have RO8 := Aside0.mk (RO5.out.snoc gr (rowS mz l l.length) KR.out (by rw [GR.out]; exact BQ.out.size) HNG.out ho hg); have B8 := Aside0.mk hb; clear ho hb hg hat)
       go_roundg (gko - 1)
       all_goals (first | (rw [hgko]; omega) | exact ⟨j + 1, gs ++ [gr], by omega, by omega, by first | rfl | (rw [WJ.out]), by rw [List.take_succ_eq_append_getElem cj, List.map_append]; rw [HMZ.out, List.getD_eq_getElem?_getD, List.getElem?_eq_getElem cj] at RO8; exact RO8, B8⟩)

    ·obtain rfl : j = ms.length := by omega
     have q1 : decide ((ms.length : Int) < (ms.length : Int)) = false := decide_eq_false (by omega)
     go_wp2_with fail
     go_ret2
     have RE := RO.out.lower B.out.size
     rw [List.take_length] at RE
     exact ⟨.slice Ao no co, gs, rfl, by rw [← HMS.out]; exact RE, B.out.trans (BQ.out.mono B.out.size)⟩
/-! ### The comparison of two rows -/
def cfI (x y : Int) : Int := if x < y then -1 else if y < x then 1 else 0
set_option maxHeartbeats 16000000 in
set_option maxRecDepth 100000 in
theorem isNaN_int (x : Int) (w : World) : Calls Try.prog 61 #[.int .i64 x] w fun e w' => e = .returned (.bool false) ∧ w' = w := by
 go_enter Try.func61, Try.ntmps61
 go_wp2_with fail
 go_ret
 exact ⟨rfl, rfl⟩
set_option maxHeartbeats 16000000 in
set_option maxRecDepth 100000 in
theorem cmpI (x y : Int) (w : World) : Calls Try.prog 36 #[.int .i64 x, .int .i64 y] w fun e w' => e = .returned (.int .i64 (cfI x y)) ∧ w' = w := by
 go_enter Try.func36, Try.ntmps36
 by_cases c1 : x < y
 ·have q1 : decide (x < y) = true := decide_eq_true c1
  have e : cfI x y = -1 := by unfold cfI; rw [if_pos c1]
  have E := Aside0.mk e
  clear e
  go_wp2_with (go_at_call 61; refine (isNaN_int _ _).mono ?_; rintro e w1 ⟨rfl, rfl⟩)
  go_ret
  exact ⟨by rw [E.out]; rfl, rfl⟩
 ·have q1 : decide (x < y) = false := decide_eq_false c1
  by_cases c2 : y < x
  ·have q2 : decide (y < x) = true := decide_eq_true c2
   have e : cfI x y = 1 := by unfold cfI; rw [if_neg c1, if_pos c2]
   have E := Aside0.mk e
   clear e
   go_wp2_with (go_at_call 61; refine (isNaN_int _ _).mono ?_; rintro e w1 ⟨rfl, rfl⟩)
   go_ret
   exact ⟨by rw [E.out]; rfl, rfl⟩
  ·have q2 : decide (y < x) = false := decide_eq_false c2
   have e : cfI x y = 0 := by unfold cfI; rw [if_neg c1, if_neg c2]
   have E := Aside0.mk e
   clear e
   go_wp2_with (go_at_call 61; refine (isNaN_int _ _).mono ?_; rintro e w1 ⟨rfl, rfl⟩)
   go_ret
   exact ⟨by rw [E.out]; rfl, rfl⟩
theorem row_at {w : World} {g : Nat} {r : R4} (h : w.heap[g]? = some (.cells r.cells 2 (0, 0))) (i : Nat) (hi : i < 4) : w.cell? ⟨g, i, none⟩ = some (.int .i64 (r.l.getD i 0)) := by
 rw [blk_cell h]
 match i, hi with
 | 0, _ => rfl
 | 1, _ => rfl
 | 2, _ => rfl
 | 3, _ => rfl
set_option maxHeartbeats 16000000 in
set_option maxRecDepth 100000 in
theorem cmpR (x y : R4) (g1 g2 : Nat) (w : World) (h1 : w.heap[g1]? = some (.cells x.cells 2 (0, 0))) (h2 : w.heap[g2]? = some (.cells y.cells 2 (0, 0))) (hd : x = y ∨ x.a ≠ y.a) :
  Calls Try.prog 22 #[hdr g1, hdr g2] w fun e w' => e = .returned (.int .i64 (cfI x.a y.a)) ∧ w' = w := by
 have H1 := Aside0.mk h1
 have H2 := Aside0.mk h2
 clear h1 h2
 unfold hdr
 go_enter Try.func22, Try.ntmps22
 go_wp2_with fail
 go_loopg [11] 4 (fun gg v11 wr => ∃ i : Nat, i ≤ 4 ∧ 4 - i ≤ gg ∧ v11 = .int .i64 i ∧ (0 < i → x = y) ∧ wr = w)
 case atStart => exact ⟨0, by omega, by omega, rfl, fun h => absurd h (by omega), rfl⟩
 case round =>
  obtain ⟨i, hi, hg, rfl, hxy, rfl⟩ := hrel
  have HXY := Aside0.mk hxy
  have HD := Aside0.mk hd
  clear hxy hd
  by_cases c : i < 4
  ·have q1 : decide ((i : Int) < 4) = true := decide_eq_true (by omega)
   have q2 : decide ((0 : Int) ≤ (i : Int)) = true := decide_eq_true (by omega)
   have q3 : decide ((4 : Int) ≤ (i : Int)) = false := decide_eq_false (by omega)
   have hc1 := row_at H1.out i c
   have hc2 := row_at H2.out i c
   obtain ⟨p, hp⟩ : ∃ p, p = x.l.getD i 0 := ⟨_, rfl⟩
   obtain ⟨q, hq⟩ : ∃ q, q = y.l.getD i 0 := ⟨_, rfl⟩
   rw [← hp] at hc1
   rw [← hq] at hc2
   have HP := Aside0.mk hp
   have HQ := Aside0.mk hq
   have wi : wrap64 ((i : Int) + 1) = ((i + 1 : Nat) : Int) := by unfold wrap64; omega
   have WI := Aside0.mk wi
   clear hp hq wi
   by_cases ce : x = y
   ·have hpq : cfI p q = 0 := by rw [HP.out, HQ.out, ce]; unfold cfI; rw [if_neg (by omega), if_neg (by omega)]
    have CE := Aside0.mk ce
    clear ce
    go_wp2_with (go_at_call 36; refine (cmpI p q _).mono ?_; rw [hpq]; rintro e w1 ⟨rfl, rfl⟩)
    go_roundg (gk - 1)
    all_goals (first | omega | exact ⟨i + 1, by omega, by omega, by first | rfl | (rw [WI.out]), fun _ => CE.out, rfl⟩)
   ·have hi0 : i = 0 := by
     rcases Nat.eq_zero_or_pos i with h | h
     ·exact h
     ·exact absurd (HXY.out h) ce
    have hne : x.a ≠ y.a := HD.out.resolve_left ce
    have hp0 : p = x.a := by rw [HP.out, hi0]; rfl
    have hq0 : q = y.a := by rw [HQ.out, hi0]; rfl
    have hr : cfI p q = cfI x.a y.a := by rw [hp0, hq0]
    have hz : ¬ cfI p q = 0 := by rw [hr]; unfold cfI; split <;> (try split) <;> omega
    have hz2 : (cfI p q == 0) = false := beq_eq_false_iff_ne.2 hz
    have HRR := Aside0.mk hr
    obtain ⟨cc, hcc⟩ : ∃ cc, cc = cfI p q := ⟨_, rfl⟩
    rw [← hcc] at hz2
    have HCC := Aside0.mk hcc
    clear hi0 hne hp0 hq0 hr hz hcc ce
    go_wp2_with (go_at_call 36; refine (cmpI p q _).mono ?_; rw [← HCC.out]; rintro e w1 ⟨rfl, rfl⟩)
    go_ret
    exact ⟨by rw [← HRR.out, ← HCC.out]; rfl, rfl⟩
  ·obtain rfl : i = 4 := by omega
   have q1 : decide (((4 : Nat) : Int) < 4) = false := by decide
   have exy : x = y := HXY.out (by omega)
   have e0 : cfI x.a y.a = 0 := by rw [exy]; unfold cfI; rw [if_neg (by omega), if_neg (by omega)]
   have E0 := Aside0.mk e0
   clear exy e0
   go_wp2_with fail
   go_ret
   exact ⟨by rw [E0.out]; rfl, rfl⟩
/-! ### Rows are sorted -/
section
open Go.Shelf Go.Lib
theorem sortWorld_heap {α : Type} [Inhabited α] (enc : α → Value) (w : World) (blk off m : Nat) (dk : Array α) (os : Array Obj) (g : Nat) (hg : g < w.heap.size) (hne : blk ≠ g) : (sortWorld enc w blk off m dk os).heap[g]? = w.heap[g]? := by
 show ((w.heap.modify blk _) ++ os)[g]? = _
 rw [Array.getElem?_append_left (by rw [Array.size_modify]; exact hg), Array.getElem?_modify, if_neg hne]
theorem sortWorld_row {α : Type} [Inhabited α] (enc : α → Value) (w : World) (blk off m : Nat) (dk : Array α) (os : Array Obj) {cur : Array Value} {t : TypeId} {fr : Nat × Nat} (h : w.heap[blk]? = some (.cells cur t fr)) : (sortWorld enc w blk off m dk os).heap[blk]? = some (.cells (Go.Sort.putCells enc off dk cur) t fr) := by
 have hl : blk < w.heap.size := blk_lt h
 show ((w.heap.modify blk (Go.Sort.onCells (Go.Sort.putCells enc off dk))) ++ os)[blk]? = _
 rw [Array.getElem?_append_left (by rw [Array.size_modify]; exact hl), Array.getElem?_modify, if_pos rfl, h]
 rfl
theorem sortWorld_size {α : Type} [Inhabited α] (enc : α → Value) (w : World) (blk off m : Nat) (dk : Array α) (os : Array Obj) : w.heap.size ≤ (sortWorld enc w blk off m dk os).heap.size := by
 show _ ≤ ((w.heap.modify blk _) ++ os).size
 rw [Array.size_append, Array.size_modify]
 omega
theorem cfI_swo {α : Type} (h : α → Int) : Go.Sort.SWO (ltOf fun x y : α => cfI (h x) (h y)) := by
 have key : ∀ x y : α, ltOf (fun x y : α => cfI (h x) (h y)) x y = decide (h x < h y) := fun x y => by
  show decide ((if h x < h y then (-1 : Int) else if h y < h x then 1 else 0) < 0) = decide (h x < h y)
  by_cases c : h x < h y
  ·rw [if_pos c]; simp [c]
  ·rw [if_neg c]
   split <;> simp [c]
 refine ⟨fun x => ?_, fun x y z => ?_, fun x y z => ?_⟩
 ·rw [key]; simp
 ·rw [key, key, key]
  simp only [decide_eq_true_eq]
  omega
 ·rw [key, key, key]
  simp only [decide_eq_false_iff_not]
  omega
def Heads (rs : List R4) : Prop := rs.Pairwise fun x y => x.a ≠ y.a
theorem heads_ne {rs : List R4} (h : Heads rs) {i j : Nat} (hi : i < rs.length) (hj : j < rs.length) (hij : i ≠ j) : (rs.getD i z4).a ≠ (rs.getD j z4).a := by
 rw [List.getD_eq_getElem?_getD, List.getD_eq_getElem?_getD, List.getElem?_eq_getElem hi, List.getElem?_eq_getElem hj]
 rcases Nat.lt_or_ge i j with c | c
 ·exact List.pairwise_iff_getElem.1 h i j hi hj c
 ·exact fun e => List.pairwise_iff_getElem.1 h j i hj hi (by omega) e.symm
theorem getB {α : Type} [Inhabited α] (d : Array α) (i : Nat) (h : i < d.size) : d[i]! = d[i] := getElem!_pos d i h
theorem sortRows {w : World} {base gb c : Nat} {gs : List Nat} {rs : List R4} (h : RowsG w base (.slice (some ⟨gb, 0, none⟩) rs.length c) gs rs) (hd : Heads rs) (hp : 0 < rs.length) (hn : rs.length ≤ 1048576) :
  Calls Try.prog 21 #[.slice (some ⟨gb, 0, none⟩) rs.length c, .func (.func 22) #[] #[]] w fun e w' => e = .returned (.tuple #[]) ∧ ∃ gs' rs', RowsG w' base (.slice (some ⟨gb, 0, none⟩) rs.length c) gs' rs' ∧ rs'.Perm rs ∧ rs'.Pairwise (fun x y => x.a < y.a) ∧ Below base w w' := by
 obtain ⟨gX, eX, hbX, ⟨cur, hcur⟩, _⟩ := h.at 0 hp
 injection eX with eX
 injection eX with eX
 subst eX
 have hlen := h.len
 have eg : ∀ args w, (callFunc 22 args).run Try.prog w = .ok (.enter 22 args) w := enters_of Try.func22 (by kernel_rfl) rfl
 haveI : Inhabited (Fin rs.length) := ⟨⟨0, hp⟩⟩
 obtain ⟨enc, henc⟩ : ∃ enc : Fin rs.length → Value, enc = fun x => hdr (gs.getD x.val 0) := ⟨_, rfl⟩
 obtain ⟨d, hdd⟩ : ∃ d : Array (Fin rs.length), d = Array.ofFn (fun i => i) := ⟨_, rfl⟩
 have hds : d.size = rs.length := by rw [hdd, Array.size_ofFn]
 have hdi : ∀ i (hi : i < rs.length), d[i]! = ⟨i, hi⟩ := fun i hi => by
  rw [getB d i (by omega)]
  simp only [hdd, Array.getElem_ofFn]
 have h1 : OneCell enc := fun x => by rw [henc]; rfl
 have hH : Go.Sort.Holds enc w gb 0 d := fun j hj => by
  rw [hds] at hj
  obtain ⟨g, e1, _, _, e2⟩ := h.at j hj
  injection e1 with e1
  injection e1 with e1
  subst e1
  rw [Nat.zero_add, hdi j hj, henc]
  exact ⟨e2, blk_frozen hcur j⟩
 have hne : ∀ i, i < rs.length → gb ≠ gs.getD i 0 := fun i hi e => by
  have := (h.blk i hi).1
  rw [← e, hcur] at this
  injection this with this
  injection this with _ this
  cases this
 have hcmp : CmpLays1 Try.prog 22 #[] enc (fun x y => cfI (rs.getD x.val z4).a (rs.getD y.val z4).a) gb 0 d.size w := CmpReads.lays fun m os dk _ x y => by
  have b1 := (h.blk x.val x.isLt).1
  have b2 := (h.blk y.val y.isLt).1
  rw [henc]
  refine (cmpR (rs.getD x.val z4) (rs.getD y.val z4) (gs.getD x.val 0) (gs.getD y.val 0) _ ((sortWorld_heap _ w gb 0 m dk os _ (blk_lt b1) (hne _ x.isLt)).trans b1) ((sortWorld_heap _ w gb 0 m dk os _ (blk_lt b2) (hne _ y.isLt)).trans b2) ?_).mono fun e w' he => ⟨he.1, 0, he.2⟩
  by_cases cxy : x = y
  ·exact .inl (by rw [cxy])
  ·exact .inr (heads_ne hd x.isLt y.isLt (fun e => cxy (Fin.ext e)))
 have hS := Try.slices_SortFunc enc h1 _ (cfI_swo fun x : Fin rs.length => (rs.getD x.val z4).a) 22 #[] gb 0 c d w eg hcmp hH (blk_lt hcur) (by omega)
 rw [hds] at hS
 refine hS.mono ?_
 rintro e w' ⟨rfl, d', n, os, hperm, hsort, rfl⟩
 have hd's : d'.size = rs.length := by rw [hperm.1, hds]
 have hpl : d'.toList.Perm d.toList := by
  have := hperm.2.2
  rwa [Array.extract_eq_self_of_le (by omega), Array.extract_eq_self_of_le (by omega)] at this
 have hgd : d.toList.map (fun x => gs.getD x.val 0) = gs := by
  apply List.ext_getElem (by rw [List.length_map, Array.length_toList, hds, hlen])
  intro i q1 q2
  rw [List.getElem_map, Array.getElem_toList]
  have := hdi i (by omega)
  rw [getB d i (by omega)] at this
  rw [this, List.getD_eq_getElem?_getD, List.getElem?_eq_getElem q2]; rfl
 have hrd : d.toList.map (fun x => rs.getD x.val z4) = rs := by
  apply List.ext_getElem (by rw [List.length_map, Array.length_toList, hds])
  intro i q1 q2
  rw [List.getElem_map, Array.getElem_toList]
  have := hdi i q2
  rw [getB d i (by omega)] at this
  rw [this, List.getD_eq_getElem?_getD, List.getElem?_eq_getElem q2]; rfl
 have hgp : (d'.toList.map fun x => gs.getD x.val 0).Perm gs := by
  have := hpl.map fun x => gs.getD x.val 0
  rwa [hgd] at this
 have hrp : (d'.toList.map fun x => rs.getD x.val z4).Perm rs := by
  have := hpl.map fun x => rs.getD x.val z4
  rwa [hrd] at this
 have hgl : ∀ i (hi : i < rs.length), (d'.toList.map fun x => gs.getD x.val 0).getD i 0 = gs.getD (d'[i]'(by omega)).val 0 := fun i hi => by
  rw [List.getD_eq_getElem?_getD, List.getElem?_map, Array.getElem?_toList, Array.getElem?_eq_getElem (by omega)]; rfl
 have hrl : ∀ i (hi : i < rs.length), (d'.toList.map fun x => rs.getD x.val z4).getD i z4 = rs.getD (d'[i]'(by omega)).val z4 := fun i hi => by
  rw [List.getD_eq_getElem?_getD, List.getElem?_map, Array.getElem?_toList, Array.getElem?_eq_getElem (by omega)]; rfl
 have hlr : (d'.toList.map fun x => rs.getD x.val z4).length = rs.length := by rw [List.length_map, Array.length_toList (xs := d'), hd's]
 have hlg : (d'.toList.map fun x => gs.getD x.val 0).length = rs.length := by rw [List.length_map, Array.length_toList (xs := d'), hd's]
 refine ⟨rfl, d'.toList.map (fun x => gs.getD x.val 0), d'.toList.map (fun x => rs.getD x.val z4), ⟨by rw [hlr, hlg], ?_, hgp.nodup_iff.2 h.nd, fun i hi => ?_⟩, hrp, ?_, ?_⟩
 ·rw [hlr]
  rcases h.own.2 with ⟨e1, _⟩ | ⟨g, cap, cur', e1, e2, e3, e4, e5, e6, e7⟩
  ·cases e1
  ·injection e1 with e1 _ e8
   injection e1 with e1
   injection e1 with e1
   subst e1 e8
   rw [hcur] at e3
   injection e3 with e3
   injection e3 with e3
   subst e3
   refine ⟨by rw [List.length_map, hlg, Nat.mul_one], .inr ⟨gb, c, _, rfl, e2, sortWorld_row enc w gb 0 n d' os hcur, e4, e5, by unfold Go.Sort.putCells; rw [Array.size_mapIdx]; exact e6, ?_⟩⟩
   apply List.ext_getElem?
   intro i
   rw [Nat.mul_one]
   by_cases ci : i < rs.length
   ·rw [List.getElem?_take_of_lt ci, Array.getElem?_toList]
    unfold Go.Sort.putCells
    rw [Array.getElem?_mapIdx, Array.getElem?_eq_getElem (by omega)]
    simp only [Option.map_some]
    rw [if_pos ⟨Nat.zero_le _, by omega⟩, Nat.sub_zero, getB d' i (by omega), List.getElem?_map, List.getElem?_map, Array.getElem?_toList, Array.getElem?_eq_getElem (by omega), henc]
    rfl
   ·rw [List.getElem?_take_eq_none (by omega), List.getElem?_eq_none (by rw [List.length_map, hlg]; omega)]
 ·rw [hlr] at hi
  rw [hgl i hi, hrl i hi]
  have b1 := h.blk (d'[i]'(by omega)).val (d'[i]'(by omega)).isLt
  exact ⟨(sortWorld_heap _ w gb 0 n d' os _ (blk_lt b1.1) (hne _ (d'[i]'(by omega)).isLt)).trans b1.1, b1.2⟩
 ·have hdis : Heads (d'.toList.map fun x => rs.getD x.val z4) := by
   unfold Heads
   exact (List.Perm.pairwise_iff (fun h e => h e.symm) hrp).2 hd
  rw [List.pairwise_iff_getElem]
  intro i j hi hj hij
  rw [hlr] at hi hj
  have hs := hsort i j (Nat.zero_le _) hij hj
  rw [getB d' j (by omega), getB d' i (by omega)] at hs
  have hne2 := List.pairwise_iff_getElem.1 hdis i j (by rw [hlr]; exact hi) (by rw [hlr]; exact hj) hij
  simp only [List.getElem_map, Array.getElem_toList] at hne2 ⊢
  unfold ltOf cfI at hs
  simp only [decide_eq_false_iff_not] at hs
  split at hs
  ·omega
  ·omega
 ·exact ⟨rfl, rfl, rfl, sortWorld_size _ _ _ _ _ _ _, fun g hg => sortWorld_heap _ w gb 0 n d' os g (by have := blk_lt hcur; omega) (by omega)⟩
end
/-! ### A row is looked up -/
set_option maxHeartbeats 16000000 in
set_option maxRecDepth 100000 in
theorem cloR (r : R4) (g gx : Nat) (s : Int) (w : World) (h : w.heap[g]? = some (.cells r.cells 2 (0, 0))) (hx : w.cell? ⟨gx, 1, none⟩ = some (.int .i64 s)) :
  Calls Try.prog 19 #[hdr g, .pointer (some ⟨gx, 0, none⟩)] w fun e w' => e = .returned (.bool (r.a == s)) ∧ Below w.heap.size w w' := by
 have h0 : w.cell? ⟨g, 0, none⟩ = some (.int .i64 r.a) := (blk_cell h 0).trans rfl
 clear h
 unfold hdr
 have B := Aside0.mk (Below.refl w.heap.size w)
 go_enter Try.func19, Try.ntmps19
 go_wp2_with fail
 go_region_with fail
 all_goals go_wp2
 all_goals go_ret
 all_goals exact ⟨rfl, by repeat (first | exact Below.refl _ _ | (with_reducible refine pw_below_drewN ?_ _) | (with_reducible refine below_drew ?_))⟩
set_option maxHeartbeats 16000000 in
set_option maxRecDepth 100000 in
theorem idxF (rs : List R4) (s : Int) (i0 : Nat) (hi0 : i0 ≤ rs.length) (hb : ∀ j, j < i0 → (rs.getD j z4).a ≠ s) (hh : i0 < rs.length → (rs.getD i0 z4).a = s) (hn : rs.length ≤ 1048576) (res : Int) (hr1 : i0 < rs.length → res = (i0 : Int)) (hr2 : ¬ i0 < rs.length → res = -1) {base c gx : Nat} {A : Option Addr} {gs : List Nat} {cx : Array Value} (w : World) (h : RowsG w base (.slice A rs.length c) gs rs) (hk : w.heap[gx]? = some (.cells cx 44 (0, 0))) (hx : cx[1]? = some (.int .i64 s)) :
  Calls Try.prog 18 #[.slice A rs.length c, .func (.func 19) #[] #[.pointer (some ⟨gx, 0, none⟩)]] w fun e w' => e = .returned (.int .i64 res) ∧ Below w.heap.size w w' := by
 have H := Aside0.mk h
 have HB := Aside0.mk hb
 have HH := Aside0.mk hh
 have HN := Aside0.mk hn
 have HK := Aside0.mk hk
 have HX := Aside0.mk hx
 have HI := Aside0.mk hi0
 have HR1 := Aside0.mk hr1
 have HR2 := Aside0.mk hr2
 clear h hb hh hn hk hx hi0 hr1 hr2
 go_enter Try.func18, Try.ntmps18
 go_wp2_with fail
 have B0 := Aside0.mk (Below.refl w.heap.size w)
 go_loopg [8] rs.length (fun gg v8 wr => ∃ i : Nat, i ≤ i0 ∧ rs.length - i ≤ gg ∧ v8 = .int .i64 i ∧ Aside0 (Below w.heap.size w wr))
 case atStart => exact ⟨0, Nat.zero_le _, by omega, rfl, B0⟩
 case round =>
  clear B0
  rename World => wr
  obtain ⟨i, hi, hg, rfl, B⟩ := hrel
  by_cases c : i < rs.length
  ·have q1 : decide ((i : Int) < (rs.length : Int)) = true := decide_eq_true (by omega)
   have q2 : decide ((0 : Int) ≤ (i : Int)) = true := decide_eq_true (by omega)
   obtain ⟨g1, e1, _, _, hc1⟩ := (H.out.below B.out).at i c
   subst e1
   unfold hdr at hc1
   have hblk := Aside0.mk (((H.out.below B.out).blk i c).1)
   obtain ⟨x1, hx1⟩ : ∃ x, x = gs.getD i 0 := ⟨_, rfl⟩
   rw [← hx1] at hc1 hblk
   have hxc : Aside0 (wr.cell? ⟨gx, 1, none⟩ = some (.int .i64 s)) := ⟨by rw [blk_cell (blk_bel HK.out B.out)]; exact HX.out⟩
   have wi : wrap64 ((i : Int) + 1) = ((i + 1 : Nat) : Int) := by have := HN.out; unfold wrap64; omega
   have WI := Aside0.mk wi
   clear wi hx1
   by_cases ce : i = i0
   ·have e1 : ((rs.getD i z4).a == s) = true := by rw [ce]; exact beq_iff_eq.2 (HH.out (by omega))
    have E1 := Aside0.mk e1
    have CE := Aside0.mk ce
    clear e1 ce
    go_wp2_with (go_at_call 19; refine (cloR (rs.getD i z4) x1 gx s wr hblk.out hxc.out).mono ?_; rw [E1.out]; rintro e u1 ⟨rfl, hb⟩; have B2 := Aside0.mk (B.out.trans (hb.mono B.out.size)); clear hb)
    go_ret
    exact ⟨by rw [HR1.out (by rw [← CE.out]; exact c), ← CE.out]; rfl, B2.out⟩
   ·have e1 : ((rs.getD i z4).a == s) = false := beq_eq_false_iff_ne.2 (HB.out i (by omega))
    have E1 := Aside0.mk e1
    have CE : i + 1 ≤ i0 := by omega
    clear e1 ce
    go_wp2_with (go_at_call 19; refine (cloR (rs.getD i z4) x1 gx s wr hblk.out hxc.out).mono ?_; rw [E1.out]; rintro e u1 ⟨rfl, hb⟩; have B2 := Aside0.mk (B.out.trans (hb.mono B.out.size)); clear hb)
    go_roundg (gk - 1)
    all_goals (first | omega | exact ⟨i + 1, CE, by omega, by first | rfl | (rw [WI.out]), B2⟩)
  ·have q1 : decide ((i : Int) < (rs.length : Int)) = false := decide_eq_false (by omega)
   have hz : ¬ i0 < rs.length := by omega
   have HZ := Aside0.mk hz
   clear hz
   go_wp2_with fail
   go_ret
   exact ⟨by rw [HR2.out HZ.out]; rfl, B.out⟩
/-! ### The program's count -/
def updI (r : R4) (x : S44) : R4 := ⟨r.a, wrap64 (r.b + 1), wrap64 (r.c + (if x.f5 = true then 1 else 0)), wrap64 (r.d + (x.f7.length : Int))⟩
def idxI (rs : List R4) (s : Int) : Nat := rs.findIdx fun r => r.a == s
def addI (rs : List R4) (s : Int) : List R4 := if idxI rs s < rs.length then rs else rs ++ [⟨s, 0, 0, 0⟩]
def stepI (rs : List R4) (x : S44) : List R4 := (addI rs x.f1).set (idxI rs x.f1) (updI ((addI rs x.f1).getD (idxI rs x.f1) z4) x)
def impJ (l : List S44) (i : Nat) : List R4 := (l.take i).foldl stepI []
theorem impJ_succ (l : List S44) (i : Nat) (hi : i < l.length) : impJ l (i + 1) = stepI (impJ l i) (l.getD i z44) := by
 unfold impJ
 rw [List.take_succ_eq_append_getElem hi, List.foldl_append, List.getD_eq_getElem?_getD, List.getElem?_eq_getElem hi]
 rfl
theorem idxI_le (rs : List R4) (s : Int) : idxI rs s ≤ rs.length := List.findIdx_le_length
theorem idxI_lt (rs : List R4) (s : Int) : idxI rs s < (addI rs s).length := by
 unfold addI
 split
 ·next h => exact h
 ·next h => have := idxI_le rs s; rw [List.length_append, List.length_singleton]; omega
theorem addI_len (rs : List R4) (s : Int) : (addI rs s).length ≤ rs.length + 1 := by
 unfold addI
 split
 ·omega
 ·rw [List.length_append, List.length_singleton]; omega
theorem stepI_len (rs : List R4) (x : S44) : (stepI rs x).length ≤ rs.length + 1 := by
 unfold stepI
 rw [List.length_set]
 exact addI_len rs x.f1
theorem impJ_len (l : List S44) : ∀ i, i ≤ l.length → (impJ l i).length ≤ i
 | 0, _ => by unfold impJ; simp
 | i + 1, h => by
  rw [impJ_succ l i (by omega)]
  have := impJ_len l i (by omega)
  have := stepI_len (impJ l i) (l.getD i z44)
  omega
theorem idxI_no (rs : List R4) (s : Int) (j : Nat) (h : j < idxI rs s) : (rs.getD j z4).a ≠ s := by
 have hl := idxI_le rs s
 have := List.not_of_lt_findIdx (p := fun r : R4 => r.a == s) (xs := rs) h
 rw [List.getD_eq_getElem?_getD, List.getElem?_eq_getElem (by omega)]
 show rs[j].a ≠ s
 exact fun e => by simp [e] at this
theorem idxI_yes (rs : List R4) (s : Int) (h : idxI rs s < rs.length) : (rs.getD (idxI rs s) z4).a = s := by
 have := List.findIdx_getElem (p := fun r : R4 => r.a == s) (xs := rs) (w := h)
 rw [List.getD_eq_getElem?_getD, List.getElem?_eq_getElem h]
 exact beq_iff_eq.1 this
theorem oneIf_is (b : Bool) : impl_oneIf.f b = some (if b = true then 1 else 0) := by
 unfold impl_oneIf.f
 cases b <;> rfl
theorem RowsG.notownT {w : World} {base : Nat} {v : Value} {gs : List Nat} {rs : List R4} (h : RowsG w base v gs rs) {k t : Nat} {cs : Array Value} (hk : w.heap[k]? = some (.cells cs t (0, 0))) (ht : t ≠ 41) : some k ≠ v.ownBlock := by
 intro e
 rcases h.own.2 with ⟨e1, _⟩ | ⟨g, cap, cur, e1, _, e3, _⟩
 ·rw [e1] at e; cases e
 ·rw [e1] at e
  have e' : k = g := by simpa [Value.ownBlock] using e
  rw [e', e3] at hk
  injection hk with hk
  injection hk with _ hk
  exact ht hk.symm
theorem kept1 {w W : World} {g : Nat} (h : Kept w W (fun k => k = g)) (i : Nat) (v : Value) : Kept w (W.setCell ⟨g, i, none⟩ v) (fun k => k = g) := Kept.setCell (S := fun k => k = g) (p := ⟨g, i, none⟩) h (.inl rfl) v
theorem cell_same {w w2 : World} {g : Nat} (h : w2.heap[g]? = w.heap[g]?) (i : Nat) : w2.cell? ⟨g, i, none⟩ = w.cell? ⟨g, i, none⟩ := by
 unfold World.cell?
 simp only [h]
theorem sortAny {w : World} {base c : Nat} {A : Option Addr} {gs : List Nat} {rs : List R4} (h : RowsG w base (.slice A rs.length c) gs rs) (hd : Heads rs) (hn : rs.length ≤ 1048576) :
  Calls Try.prog 21 #[.slice A rs.length c, .func (.func 22) #[] #[]] w fun e w' => e = .returned (.tuple #[]) ∧ ∃ gs' rs', RowsG w' base (.slice A rs.length c) gs' rs' ∧ rs'.Perm rs ∧ rs'.Pairwise (fun x y => x.a < y.a) ∧ Below base w w' := by
 by_cases hp : 0 < rs.length
 ·obtain ⟨g, e, _⟩ := h.at 0 hp
  subst e
  exact sortRows h hd hp hn
 ·have h0 : rs = [] := List.length_eq_zero_iff.1 (by omega)
  subst h0
  refine (Try.slices_SortFunc_none (α := Unit) A c (.func (.func 22) #[] #[]) w).mono ?_
  rintro e w' ⟨rfl, rfl⟩
  exact ⟨rfl, gs, [], h, List.Perm.refl _, List.Pairwise.nil, Below.refl _ _⟩
set_option maxHeartbeats 16000000 in
set_option maxRecDepth 100000 in
theorem implCO (k : Nat) (a0 : Int) (A : Option Addr) (cA : Nat) (l : List S44) (w : World) (hr : Kd.C k44 w A l.length l) (hc : l.length ≤ cA) (hv : impl_ValidLog.f k a0 l = some true) (hn : l.length ≤ 1048576) (hd : Heads (impJ l l.length)) (T : List R4) (hT : ∀ rs : List R4, rs.Perm (impJ l l.length) → rs.Pairwise (fun x y => x.a < y.a) → rs = T) :
  Calls Try.prog 7 #[.agg #[.int .i64 a0, .slice A l.length cA]] w fun e w' => ∃ v gs, e = .returned (.tuple #[v, .bool true]) ∧ RowsG w' w.heap.size v gs T ∧ Below w.heap.size w w' := by
 have HR := Aside0.mk hr
 have HC := Aside0.mk hc
 have HV := Aside0.mk hv
 have HN := Aside0.mk hn
 have HD := Aside0.mk hd
 have HT := Aside0.mk hT
 clear hr hc hv hn hd hT
 go_enter Try.func7, Try.ntmps7
 have K0 := Aside0.mk (heap_alloc_new w (.cells #[.int .i64 a0, .slice A l.length cA] 31))
 have B0 := Aside0.mk (below_alloc (Below.refl w.heap.size w) (.cells #[.int .i64 a0, .slice A l.length cA] 31))
 go_upto_region 1 with fail
 have h00 : (w.alloc (.cells #[.int .i64 a0, .slice A l.length cA] 31)).cell? ⟨w.heap.size, 0, none⟩ = some (.int .i64 a0) := (blk_cell K0.out 0).trans rfl
 have h01 : (w.alloc (.cells #[.int .i64 a0, .slice A l.length cA] 31)).cell? ⟨w.heap.size, 1, none⟩ = some (.slice A l.length cA) := (blk_cell K0.out 1).trans rfl
 go_upto_region 3 with (go_at_call 17; refine (impl_ValidLog.calls k a0 A cA l true _ (Kd.C_below HR.out B0.out) HC.out HV.out).mono ?_; rintro e w1 ⟨rfl, hb⟩; have K1 := Aside0.mk (blk_bel K0.out hb); have B1 := Aside0.mk (B0.out.trans (hb.mono B0.out.size)); clear hb)
 clear K0 B0 h00 h01
 obtain ⟨gl, hgl⟩ : ∃ gl, gl = w.heap.size := ⟨_, rfl⟩
 rw [← hgl] at K1
 try rw [← hgl]
 clear hgl
 go_upto_region 4 with fail
 obtain ⟨W2, hW2⟩ : ∃ W2, W2 = w1.alloc (.cells #[] 41) := ⟨_, rfl⟩
 obtain ⟨go, hgo⟩ : ∃ go, go = w1.heap.size := ⟨_, rfl⟩
 have B2 : Aside0 (Below w1.heap.size w1 W2) := ⟨by rw [hW2]; exact below_alloc (Below.refl _ _) _⟩
 have R2 : Aside0 (RowsG W2 w1.heap.size (.slice (some ⟨go, 0, none⟩) 0 0) [] (impJ l 0)) := ⟨by rw [hW2, hgo]; exact RowsG.empty (Nat.le_refl _) (heap_alloc_new w1 _)⟩
 have hl1 : W2.cell? ⟨gl, 1, none⟩ = some (.slice A l.length cA) := (blk_cell (blk_bel K1.out B2.out) 1).trans rfl
 try rw [← hW2]
 try rw [← hgo]
 clear hW2 hgo
 go_wp2_with fail
 clear hl1
 go_loopg [4, 15] l.length (fun gg v4 v15 wr => ∃ (i : Nat) (gs : List Nat), i ≤ l.length ∧ l.length - i ≤ gg ∧ v15 = .int .i64 i ∧ Aside0 (RowsG wr w1.heap.size v4 gs (impJ l i)) ∧ Aside0 (Below w1.heap.size w1 wr))
 case atStart => exact ⟨0, [], Nat.zero_le _, by omega, rfl, R2, B2⟩
 case round =>
  clear R2 B2
  rename World => wr
  obtain ⟨i, gs, hi, hgi, rfl, RO, B⟩ := hrel
  obtain ⟨Ao, no, co, eo, hno⟩ := RO.out.form'
  subst eo
  have HNO := Aside0.mk hno
  clear hno
  by_cases ci : i < l.length
  ·have q1 : decide ((i : Int) < (l.length : Int)) = true := decide_eq_true (by omega)
   have q2 : decide ((0 : Int) ≤ (i : Int)) = true := decide_eq_true (by omega)
   obtain ⟨ad, A7, c7, ea, hx0, hx1, hx2, hx3, hx4, hx5, hx6, hx7, _, _⟩ := at_T44 (Kd.C_below (Kd.C_below HR.out B1.out) B.out) (i : Int) (by omega) (by omega)
   subst ea
   simp only [Int.toNat_natCast] at hx0 hx1 hx2 hx3 hx4 hx5 hx6 hx7
   have e44 : rd_T44 l (i : Int) = l.getD i z44 := by unfold rd_T44; rw [Int.toNat_natCast]
   rw [e44] at hx0 hx1 hx2 hx3 hx4 hx5 hx6 hx7
   obtain ⟨x, hx⟩ : ∃ x, x = l.getD i z44 := ⟨_, rfl⟩
   rw [← hx] at hx0 hx1 hx2 hx3 hx4 hx5 hx6 hx7
   have hjs := impJ_succ l i ci
   rw [← hx] at hjs
   have hlr := impJ_len l i (by omega)
   obtain ⟨rs, hrs⟩ : ∃ rs, rs = impJ l i := ⟨_, rfl⟩
   rw [← hrs] at hjs hlr
   have RO2 : Aside0 (RowsG wr w1.heap.size (.slice Ao no co) gs rs) := by rw [hrs]; exact RO
   have hno2 : no = rs.length := by rw [hrs]; exact HNO.out
   subst hno2
   have HJS := Aside0.mk hjs
   have wi : wrap64 ((i : Int) + 1) = ((i + 1 : Nat) : Int) := by have := HN.out; unfold wrap64; omega
   have WI := Aside0.mk wi
   have hlr2 : rs.length ≤ 1048576 := by have := HN.out; omega
   have HLR := Aside0.mk hlr2
   clear RO HNO hjs hrs hx wi e44 hlr hlr2
   go_upto_region 7 with fail
   obtain ⟨W5, hW5⟩ : ∃ W5, W5 = wr.alloc (.cells #[.int .i64 x.f0, .int .i64 x.f1, .int .i64 x.f2, .string x.f3, .int .i64 x.f4, .bool x.f5, .int .i64 x.f6, .slice A7 x.f7.length c7] 44) := ⟨_, rfl⟩
   obtain ⟨gx, hgx⟩ : ∃ gx, gx = wr.heap.size := ⟨_, rfl⟩
   have KX : Aside0 (W5.heap[gx]? = some (.cells #[.int .i64 x.f0, .int .i64 x.f1, .int .i64 x.f2, .string x.f3, .int .i64 x.f4, .bool x.f5, .int .i64 x.f6, .slice A7 x.f7.length c7] 44 (0, 0))) := ⟨by rw [hW5, hgx]; exact heap_alloc_new wr _⟩
   have RO5 : Aside0 (RowsG W5 w1.heap.size (.slice Ao rs.length co) gs rs) := ⟨by rw [hW5]; exact RO2.out.below (below_alloc (Below.refl _ _) _)⟩
   have B5 : Aside0 (Below w1.heap.size w1 W5) := ⟨by rw [hW5]; exact below_alloc B.out _⟩
   try rw [← hW5]
   try rw [← hgx]
   clear hW5 hgx RO2 B hx0 hx1 hx2 hx3 hx4 hx5 hx6 hx7
   obtain ⟨kk, hkk⟩ : ∃ kk, kk = idxI rs x.f1 := ⟨_, rfl⟩
   obtain ⟨rs1, hrs1⟩ : ∃ rs1, rs1 = addI rs x.f1 := ⟨_, rfl⟩
   obtain ⟨res, hres1, hres2⟩ : ∃ res : Int, (kk < rs.length → res = (kk : Int)) ∧ (¬ kk < rs.length → res = -1) := ⟨if kk < rs.length then (kk : Int) else -1, fun h => if_pos h, fun h => if_neg h⟩
   have HKK := Aside0.mk hkk
   have HRS1 := Aside0.mk hrs1
   have HE1 := Aside0.mk hres1
   have HE2 := Aside0.mk hres2
   have KLE : Aside0 (kk ≤ rs.length) := ⟨by rw [hkk]; exact idxI_le _ _⟩
   have KNO : Aside0 (∀ j, j < kk → (rs.getD j z4).a ≠ x.f1) := ⟨by rw [hkk]; exact idxI_no rs x.f1⟩
   have KYE : Aside0 (kk < rs.length → (rs.getD kk z4).a = x.f1) := ⟨by rw [hkk]; exact idxI_yes rs x.f1⟩
   clear hkk hrs1 hres1 hres2
   go_upto_region 8 with (go_at_call 18; refine (idxF rs x.f1 kk KLE.out KNO.out KYE.out HLR.out res HE1.out HE2.out W5 RO5.out KX.out rfl).mono ?_; rintro e w6 ⟨rfl, hb⟩; have KX6 := Aside0.mk (blk_bel KX.out hb); have RO6 := Aside0.mk (RO5.out.below hb); have B6 := Aside0.mk (B5.out.trans (hb.mono B5.out.size)); clear hb)
   clear KX RO5 B5
   go_upto_if 23 with fail
   obtain ⟨b8, hb8⟩ : ∃ b, b = decide (res < 0) := ⟨_, rfl⟩
   rw [← hb8]
   have HB8 := Aside0.mk hb8
   clear hb8
   go_cut [4, 7] (fun v4 v7 wc => ∃ gs1 : List Nat, v7 = .int .i64 (kk : Int) ∧ Aside0 (RowsG wc w1.heap.size v4 gs1 rs1) ∧ Aside0 (wc.heap[gx]? = some (.cells #[.int .i64 x.f0, .int .i64 x.f1, .int .i64 x.f2, .string x.f3, .int .i64 x.f4, .bool x.f5, .int .i64 x.f6, .slice A7 x.f7.length c7] 44 (0, 0))) ∧ Aside0 (Below w1.heap.size w1 wc))
   case first =>
    by_cases hf : kk < rs.length
    ·have hres : res = (kk : Int) := HE1.out hf
     obtain rfl : b8 = false := by rw [HB8.out]; exact decide_eq_false (by omega)
     have hr1 : rs1 = rs := by rw [HRS1.out]; unfold addI; rw [if_pos (by rw [← HKK.out]; exact hf)]
     have HR1 := Aside0.mk hr1
     have HRE := Aside0.mk hres
     clear hres hr1 hf
     go_wp2_with fail
     go_meet
     exact ⟨gs, by rw [HRE.out], by rw [HR1.out]; exact RO6, KX6, B6⟩
    ·have hkn : kk = rs.length := by have := KLE.out; omega
     have hres : res = -1 := HE2.out hf
     have hr1 : rs1 = rs ++ [⟨x.f1, 0, 0, 0⟩] := by rw [HRS1.out]; unfold addI; rw [if_neg (by rw [← HKK.out]; exact hf)]
     have HR1 := Aside0.mk hr1
     have HKN := Aside0.mk hkn
     obtain rfl : b8 = true := by rw [HB8.out, hres]; decide
     clear hres
     have hxs : w6.cell? ⟨gx, 1, none⟩ = some (.int .i64 x.f1) := (blk_cell KX6.out 1).trans rfl
     have hmg : (gs.map hdr).length = rs.length := by rw [List.length_map, RO6.out.len]
     have HMG := Aside0.mk hmg
     clear hr1 hkn hf hmg
     go_upto_region 10 with fail
     have RO7 : Aside0 (RowsG (w6.alloc (.cells #[.int .i64 x.f1, .int .i64 0, .int .i64 0, .int .i64 0] 2)) w1.heap.size (.slice Ao rs.length co) gs rs) := ⟨RO6.out.below (below_alloc (Below.refl _ _) _)⟩
     have OWN7 : Aside0 ((w6.alloc (.cells #[.int .i64 x.f1, .int .i64 0, .int .i64 0, .int .i64 0] 2)).ownsRow w1.heap.size 41 1 (.slice Ao rs.length co) (gs.map hdr).length (gs.map hdr)) := ⟨by rw [HMG.out]; exact RO7.out.own⟩
     have BB7 : Aside0 (Below w1.heap.size w1 (w6.alloc (.cells #[.int .i64 x.f1, .int .i64 0, .int .i64 0, .int .i64 0] 2))) := ⟨below_alloc B6.out _⟩
     have KN7 : Aside0 ((w6.alloc (.cells #[.int .i64 x.f1, .int .i64 0, .int .i64 0, .int .i64 0] 2)).heap[w6.heap.size]? = some (.cells (R4.cells ⟨x.f1, 0, 0, 0⟩) 2 (0, 0))) := ⟨heap_alloc_new w6 _⟩
     have KX7 := Aside0.mk (blk_bel KX6.out (below_alloc (Below.refl _ _) (.cells #[.int .i64 x.f1, .int .i64 0, .int .i64 0, .int .i64 0] 2)))
     have NG : Aside0 (w6.heap.size ∉ gs) := ⟨fun hm => Nat.lt_irrefl _ (RO6.out.lt _ hm)⟩
     go_wp2_with ((with_reducible refine gate_builtin (b := .append) (xs := #[.tmp 26, .tmp 30]) rfl ?_); at_builtin; refine print_append (w0 := w1) w1.heap.size rfl (.tmp 26) (.tmp 30) 26 41 (.slice none 0 0) 24 rfl Try.underlying26 infoHdr rfl (by decide) (.slice Ao rs.length co) (gs.map hdr) (hdr w6.heap.size) rfl (by first | (go_simp; done) | (go_simp; rfl)) rfl OWN7.out BB7.out BB7.out.size (by have := HMG.out; have := HLR.out; omega) ?_; intro v1 w8 ho hb hg hat; have RO8 := Aside0.mk (RO7.out.snoc w6.heap.size ⟨x.f1, 0, 0, 0⟩ KN7.out B6.out.size NG.out ho hg); have KX8 := Aside0.mk (blk_grown KX7.out hg (RO7.out.notownT KX7.out (by decide))); have B8 := Aside0.mk hb; clear ho hb hg hat)
     go_meet
     exact ⟨gs ++ [w6.heap.size], by rw [HKN.out], by rw [HR1.out]; exact RO8, KX8, B8⟩
   case rest =>
    rename World => wc
    obtain ⟨gs1, rfl, RO8, KX8, B8⟩ := hcut
    clear RO6 KX6 B6
    obtain ⟨A4, n4, c4, e4, hn4⟩ := RO8.out.form'
    subst e4
    have klt : kk < rs1.length := by rw [HKK.out, HRS1.out]; exact idxI_lt _ _
    subst hn4
    obtain ⟨g4, ea4, _, ⟨cur4, hcur4⟩, hc4⟩ := RO8.out.at kk klt
    subst ea4
    obtain ⟨gk4, hgk4⟩ : ∃ g, g = gs1.getD kk 0 := ⟨_, rfl⟩
    obtain ⟨r, hr⟩ : ∃ r, r = rs1.getD kk z4 := ⟨_, rfl⟩
    have KB := Aside0.mk (RO8.out.blk kk klt).1
    rw [← hgk4] at hc4 KB
    rw [← hr] at KB
    unfold hdr at hc4
    have ne1 : g4 ≠ gk4 := fun e => by
     have := KB.out
     rw [← e, hcur4] at this
     injection this with this
     injection this with _ this
     cases this
    have ne2 : gk4 ≠ g4 := fun e => ne1 e.symm
    have ne3 : gx ≠ gk4 := fun e => by
     have := KB.out
     rw [← e, KX8.out] at this
     injection this with this
     injection this with _ this
     cases this
    have ne4 : gk4 ≠ gx := fun e => ne3 e.symm
    have HGK := Aside0.mk hgk4
    have HRR := Aside0.mk hr
    have KLT := Aside0.mk klt
    have hlen1 := addI_len rs x.f1
    have hq5 : decide ((0 : Int) ≤ (kk : Int)) = true := decide_eq_true (by omega)
    have hq6 : decide ((kk : Int) < (rs1.length : Int)) = true := decide_eq_true (by omega)
    have hr1 : wc.cell? ⟨gk4, 1, none⟩ = some (.int .i64 r.b) := (blk_cell KB.out 1).trans rfl
    have hr2 : wc.cell? ⟨gk4, 2, none⟩ = some (.int .i64 r.c) := (blk_cell KB.out 2).trans rfl
    have hr3 : wc.cell? ⟨gk4, 3, none⟩ = some (.int .i64 r.d) := (blk_cell KB.out 3).trans rfl
    have hf1 := blk_frozen KB.out 1
    have hf2 := blk_frozen KB.out 2
    have hf3 := blk_frozen KB.out 3
    have hy5 : wc.cell? ⟨gx, 5, none⟩ = some (.bool x.f5) := (blk_cell KX8.out 5).trans rfl
    have hy7 : wc.cell? ⟨gx, 7, none⟩ = some (.slice A7 x.f7.length c7) := (blk_cell KX8.out 7).trans rfl
    clear hgk4 hr hcur4 hlen1
    obtain ⟨one, hone⟩ : ∃ one : Int, one = if x.f5 = true then 1 else 0 := ⟨_, rfl⟩
    have HON : Aside0 (impl_oneIf.f x.f5 = some one) := ⟨by rw [hone]; exact oneIf_is x.f5⟩
    have HONE := Aside0.mk hone
    clear hone
    go_upto_region 12 with fail
    obtain ⟨W9, hW9⟩ : ∃ W9, W9 = wc.setCell ⟨gk4, 1, none⟩ (.int .i64 (wrap64 (r.b + 1))) := ⟨_, rfl⟩
    have KB9 : Aside0 (W9.heap[gk4]? = some (.cells #[.int .i64 r.a, .int .i64 (wrap64 (r.b + 1)), .int .i64 r.c, .int .i64 r.d] 2 (0, 0))) := ⟨by rw [hW9]; exact blk_putF KB.out 1 _⟩
    have KP9 : Aside0 (Kept wc W9 (fun k => k = gk4)) := ⟨by rw [hW9]; exact kept1 (Kept.refl wc _) 1 _⟩
    have GB : Aside0 (w1.heap.size ≤ gk4) := ⟨by rw [HGK.out]; exact (RO8.out.blk kk KLT.out).2⟩
    have B9 : Aside0 (Below w1.heap.size w1 W9) := ⟨by rw [hW9]; exact below_set B8.out GB.out⟩
    have hc9 : W9.cell? ⟨g4, kk, none⟩ = some (.slice (some ⟨gk4, 0, none⟩) 4 4) := (cell_same (KP9.out.2 g4 (World.block_lt_of_cell? wc _ hc4) ne1) kk).trans hc4
    have kx9 : W9.heap[gx]? = some (.cells #[.int .i64 x.f0, .int .i64 x.f1, .int .i64 x.f2, .string x.f3, .int .i64 x.f4, .bool x.f5, .int .i64 x.f6, .slice A7 x.f7.length c7] 44 (0, 0)) := (KP9.out.2 gx (blk_lt KX8.out) ne3).trans KX8.out
    have hd2 : W9.cell? ⟨gk4, 2, none⟩ = some (.int .i64 r.c) := (blk_cell KB9.out 2).trans rfl
    have he2 := blk_frozen KB9.out 2
    have hz5 : W9.cell? ⟨gx, 5, none⟩ = some (.bool x.f5) := (blk_cell kx9 5).trans rfl
    have HC4 := Aside0.mk hc4
    have NE := Aside0.mk (show g4 ≠ gk4 ∧ gk4 ≠ g4 ∧ gx ≠ gk4 ∧ gk4 ≠ gx from ⟨ne1, ne2, ne3, ne4⟩)
    try rw [← hW9]
    clear hW9 hc4 hr1 hr2 hr3 hf1 hf2 hf3 hy5 hy7 kx9
    go_cut [] (fun wd => Aside0 (wd.heap[gk4]? = some (.cells #[.int .i64 r.a, .int .i64 (wrap64 (r.b + 1)), .int .i64 (wrap64 (r.c + one)), .int .i64 r.d] 2 (0, 0))) ∧ Aside0 (Kept wc wd (fun k => k = gk4)) ∧ Aside0 (Below w1.heap.size w1 wd))
    case first =>
     go_region_with (go_at_call 20; refine (impl_oneIf.calls x.f5 one _ HON.out).mono ?_; rintro e u1 ⟨rfl, nd, rfl⟩)
     all_goals (go_wp2; go_meet)
     all_goals (try simp only [i64_w])
     all_goals exact ⟨⟨blk_putF (show (W9.drewN _).heap[gk4]? = some (.cells #[.int .i64 r.a, .int .i64 (wrap64 (r.b + 1)), .int .i64 r.c, .int .i64 r.d] 2 (0, 0)) from KB9.out) 2 _⟩, ⟨kept1 (KP9.out.drewN _) 2 _⟩, ⟨by repeat (first | exact B9.out | (with_reducible refine below_set ?_ GB.out) | (with_reducible refine pw_below_drewN ?_ _) | (with_reducible refine below_drew ?_))⟩⟩
    case rest =>
     rename World => wd
     obtain ⟨KBd, KPd, Bd⟩ := hcut
     clear hc9 hd2 he2 hz5 KB9 KP9 B9
     have hcd : wd.cell? ⟨g4, kk, none⟩ = some (.slice (some ⟨gk4, 0, none⟩) 4 4) := (cell_same (KPd.out.2 g4 (World.block_lt_of_cell? wc _ HC4.out) NE.out.1) kk).trans HC4.out
     have kxd : wd.heap[gx]? = some (.cells #[.int .i64 x.f0, .int .i64 x.f1, .int .i64 x.f2, .string x.f3, .int .i64 x.f4, .bool x.f5, .int .i64 x.f6, .slice A7 x.f7.length c7] 44 (0, 0)) := (KPd.out.2 gx (blk_lt KX8.out) NE.out.2.2.1).trans KX8.out
     have hd3 : wd.cell? ⟨gk4, 3, none⟩ = some (.int .i64 r.d) := (blk_cell KBd.out 3).trans rfl
     have he3 := blk_frozen KBd.out 3
     have hz7 : wd.cell? ⟨gx, 7, none⟩ = some (.slice A7 x.f7.length c7) := (blk_cell kxd 7).trans rfl
     have hst : Aside0 (stepI rs x = rs1.set kk (updI r x)) := ⟨by unfold stepI; rw [← HRS1.out, ← HKK.out, ← HRR.out]⟩
     clear kxd
     go_upto_region 13 with fail
     go_region_with (fail)
     all_goals (go_wp2_with fail)
     all_goals (go_roundg (gk - 1))
     all_goals (first | omega | exact ⟨i + 1, gs1, by omega, by omega, by first | rfl | (rw [WI.out]), ⟨by rw [HJS.out, hst.out]; exact RO8.out.put kk KLT.out (updI r x) (by rw [← HGK.out]; exact (show (wd.setCell ⟨gk4, 3, none⟩ _).heap[gk4]? = _ from by rw [blk_putF KBd.out 3 _, HONE.out]; rfl)) (by rw [← HGK.out]; exact (kept1 KPd.out 3 _))⟩, ⟨below_drew (below_set Bd.out GB.out)⟩⟩)
  ·obtain rfl : i = l.length := by omega
   have q1 : decide ((l.length : Int) < (l.length : Int)) = false := decide_eq_false (by omega)
   have hl2 : (impJ l l.length).length ≤ 1048576 := by have := impJ_len l l.length (Nat.le_refl _); have := HN.out; omega
   have HS := Aside0.mk (sortAny (w := wr) (by rw [← HNO.out]; exact RO.out : RowsG wr w1.heap.size (.slice Ao (impJ l l.length).length co) gs (impJ l l.length)) HD.out hl2)
   rw [← HNO.out] at HS
   clear hl2
   go_wp2_with (go_at_call 21; refine HS.out.mono ?_; rintro e w8 ⟨rfl, gs', rs', hR, hP, hs, hb⟩; have R8 := Aside0.mk hR; have TT := Aside0.mk (HT.out rs' hP hs); have B8 := Aside0.mk (B.out.trans hb); clear hR hP hs hb)
   go_ret2
   exact ⟨.slice Ao no co, gs', rfl, by rw [← TT.out]; exact R8.out.lower B1.out.size, B1.out.trans (B8.out.mono B1.out.size)⟩
/-! ### Both, whether the log is valid or not -/
theorem RowsG.nil (w : World) (base : Nat) : RowsG w base (.slice none 0 0) [] [] := ⟨rfl, ⟨rfl, .inl ⟨rfl, rfl⟩⟩, List.nodup_nil, fun i hi => by cases hi⟩
set_option maxHeartbeats 16000000 in
set_option maxRecDepth 100000 in
theorem specNo (k : Nat) (a0 : Int) (A : Option Addr) (cA : Nat) (l : List S44) (w : World) (hr : Kd.C k44 w A l.length l) (hc : l.length ≤ cA) (his : spec_l03Is.f k a0 l = some false) :
  Calls Try.prog 5 #[.agg #[.int .i64 a0, .slice A l.length cA]] w fun e w' => e = .returned (.tuple #[.slice none 0 0, .bool false]) ∧ Below w.heap.size w w' := by
 have HR := Aside0.mk hr
 have HC := Aside0.mk hc
 have HI := Aside0.mk his
 clear hr hc his
 go_enter Try.func5, Try.ntmps5
 have K0 := Aside0.mk (heap_alloc_new w (.cells #[.int .i64 a0, .slice A l.length cA] 31))
 have B0 := Aside0.mk (below_alloc (Below.refl w.heap.size w) (.cells #[.int .i64 a0, .slice A l.length cA] 31))
 go_wp2_with (go_at_call 14; refine (spec_l03Is.calls k ⟨w.heap.size, 0, none⟩ a0 A cA l false _ (RP.of_block K0.out) (Kd.C_below HR.out B0.out) HC.out HI.out).mono ?_; rintro e w1 ⟨rfl, hb⟩; have B1 := Aside0.mk (B0.out.trans (hb.below.mono B0.out.size)); clear hb)
 go_ret2
 exact ⟨rfl, B1.out⟩
set_option maxHeartbeats 16000000 in
set_option maxRecDepth 100000 in
theorem implNo (k : Nat) (a0 : Int) (A : Option Addr) (cA : Nat) (l : List S44) (w : World) (hr : Kd.C k44 w A l.length l) (hc : l.length ≤ cA) (hv : impl_ValidLog.f k a0 l = some false) :
  Calls Try.prog 7 #[.agg #[.int .i64 a0, .slice A l.length cA]] w fun e w' => e = .returned (.tuple #[.slice none 0 0, .bool false]) ∧ Below w.heap.size w w' := by
 have HR := Aside0.mk hr
 have HC := Aside0.mk hc
 have HV := Aside0.mk hv
 clear hr hc hv
 go_enter Try.func7, Try.ntmps7
 have K0 := Aside0.mk (heap_alloc_new w (.cells #[.int .i64 a0, .slice A l.length cA] 31))
 have B0 := Aside0.mk (below_alloc (Below.refl w.heap.size w) (.cells #[.int .i64 a0, .slice A l.length cA] 31))
 go_upto_region 1 with fail
 have h00 : (w.alloc (.cells #[.int .i64 a0, .slice A l.length cA] 31)).cell? ⟨w.heap.size, 0, none⟩ = some (.int .i64 a0) := (blk_cell K0.out 0).trans rfl
 have h01 : (w.alloc (.cells #[.int .i64 a0, .slice A l.length cA] 31)).cell? ⟨w.heap.size, 1, none⟩ = some (.slice A l.length cA) := (blk_cell K0.out 1).trans rfl
 go_wp2_with (go_at_call 17; refine (impl_ValidLog.calls k a0 A cA l false _ (Kd.C_below HR.out B0.out) HC.out HV.out).mono ?_; rintro e w1 ⟨rfl, hb⟩; have B1 := Aside0.mk (B0.out.trans (hb.mono B0.out.size)); clear hb)
 go_ret2
 exact ⟨rfl, B1.out⟩
def SpecIn (k : Nat) (a0 : Int) (xs : List S44) (b : Bool) (T : List R4) : Prop :=
 (b = true ∧ spec_l03Is.f k a0 xs = some true ∧ ∃ mem : Nat → List Int, mem 0 = [] ∧ (∀ i, i < xs.length → spec_l00Put.f k (mem i) (xs.getD i z44).f1 = some (mem (i + 1))) ∧ (mem xs.length).length ≤ 1048576 ∧ T = (mem xs.length).map (fun m => rowS m xs xs.length)) ∨ (b = false ∧ spec_l03Is.f k a0 xs = some false ∧ T = [])
def ImplIn (k : Nat) (a0 : Int) (xs : List S44) (b : Bool) (T : List R4) : Prop :=
 (b = true ∧ impl_ValidLog.f k a0 xs = some true ∧ Heads (impJ xs xs.length) ∧ ∀ rs : List R4, rs.Perm (impJ xs xs.length) → rs.Pairwise (fun x y => x.a < y.a) → rs = T) ∨ (b = false ∧ impl_ValidLog.f k a0 xs = some false ∧ T = [])
theorem specAll (k : Nat) (a0 : Int) (A : Option Addr) (cA : Nat) (l : List S44) (b : Bool) (T : List R4) (w : World) (hr : Kd.C k44 w A l.length l) (hc : l.length ≤ cA) (hn : l.length ≤ 1048576) (h : SpecIn k a0 l b T) :
  Calls Try.prog 5 #[.agg #[.int .i64 a0, .slice A l.length cA]] w fun e w' => ∃ A' c' gs, e = .returned (.tuple #[.slice A' T.length c', .bool b]) ∧ RowsG w' w.heap.size (.slice A' T.length c') gs T ∧ Below w.heap.size w w' := by
 rcases h with ⟨rfl, h1, mem, h2, h3, h4, rfl⟩ | ⟨rfl, h1, rfl⟩
 ·refine (specCO k a0 A cA l mem w hr hc h1 h2 h3 hn h4).mono ?_
  rintro e w' ⟨v, gs, rfl, hR, hb⟩
  obtain ⟨A', c', rfl, _⟩ := hR.form
  exact ⟨A', c', gs, rfl, hR, hb⟩
 ·refine (specNo k a0 A cA l w hr hc h1).mono ?_
  rintro e w' ⟨rfl, hb⟩
  exact ⟨none, 0, [], rfl, RowsG.nil _ _, hb⟩
theorem implAll (k : Nat) (a0 : Int) (A : Option Addr) (cA : Nat) (l : List S44) (b : Bool) (T : List R4) (w : World) (hr : Kd.C k44 w A l.length l) (hc : l.length ≤ cA) (hn : l.length ≤ 1048576) (h : ImplIn k a0 l b T) :
  Calls Try.prog 7 #[.agg #[.int .i64 a0, .slice A l.length cA]] w fun e w' => ∃ A' c' gs, e = .returned (.tuple #[.slice A' T.length c', .bool b]) ∧ RowsG w' w.heap.size (.slice A' T.length c') gs T ∧ Below w.heap.size w w' := by
 rcases h with ⟨rfl, h1, h2, h3⟩ | ⟨rfl, h1, rfl⟩
 ·refine (implCO k a0 A cA l w hr hc h1 hn h2 T h3).mono ?_
  rintro e w' ⟨v, gs, rfl, hR, hb⟩
  obtain ⟨A', c', rfl, _⟩ := hR.form
  exact ⟨A', c', gs, rfl, hR, hb⟩
 ·refine (implNo k a0 A cA l w hr hc h1).mono ?_
  rintro e w' ⟨rfl, hb⟩
  exact ⟨none, 0, [], rfl, RowsG.nil _ _, hb⟩
theorem RowsG.keep {w w' : World} {base : Nat} {v : Value} {gs : List Nat} {rs : List R4} (h : RowsG w base v gs rs) (hk : ∀ k, k < w.heap.size → base ≤ k → w'.heap[k]? = w.heap[k]?) : RowsG w' base v gs rs := by
 refine ⟨h.len, ⟨h.own.1, ?_⟩, h.nd, fun i hi => ?_⟩
 ·rcases h.own.2 with o | ⟨g, cap, cur, e1, e2, e3, e4⟩
  ·exact .inl o
  ·exact .inr ⟨g, cap, cur, e1, e2, (hk g (blk_lt e3) e2).trans e3, e4⟩
 ·obtain ⟨h1, h2⟩ := h.blk i hi
  exact ⟨(hk _ (blk_lt h1) h2).trans h1, h2⟩
noncomputable def sureO (p : Prop) : Option Bool := @ite _ p (Classical.propDecidable p) (some true) none
theorem sureO_some {p : Prop} {r : Bool} (h : sureO p = some r) : p ∧ r = true := by
 unfold sureO at h
 split at h
 ·next hp => injection h with h; exact ⟨hp, h.symm⟩
 ·cases h
theorem sureO_mk {p : Prop} (h : p) : sureO p = some true := by unfold sureO; exact if_pos h
/-- All that the law finds. -/
structure CountOK (k : Nat) (a0 : Int) (l : List S57) (s : Int) (a1 : Int) (xs : List S44) (b : Bool) (T : List R4) (m1 : Int) (ys : List S44) (ts : List R4) (M : Nat → Int) : Prop where
 h0 : laws_szLog.f k a0 l 1048576 = some s
 h1 : ¬ s < 0
 h2 : laws_toLog.f k a0 l = some (a1, xs)
 h3 : xs.length ≤ 1048576
 h4 : SpecIn k a1 xs b T
 h5 : ImplIn k a1 xs b T
 h6 : T.length ≤ 1048576
 h7 : ∀ i, i < T.length → laws_eqInt64S.f k (T.getD i z4).l (T.getD i z4).l = some true
 h8 : laws_eqLog.f k a1 xs a1 xs = some true
 h9 : laws_markLog.f k a1 xs 1 = some (m1, ys)
 h10 : 0 ≤ m1
 h11 : ts.length = T.length
 h12 : M 0 = 1
 h13 : ∀ i, i < T.length → laws_markInt64S.f k (T.getD i z4).l (M i) = some (M (i + 1), (ts.getD i z4).l)
 h14 : ∀ i, i < ts.length → laws_heldInt64S.f k (ts.getD i z4).l (M i) = some (M (i + 1))
 h15 : ∀ i, 0 ≤ M i
noncomputable def laws_FnExactCountsOf.f (k : Nat) (a0_0 : Int) (l0_1 : List S57) : Option Bool :=
 (laws_szLog.f k a0_0 l0_1 1048576).bind fun s => if s < 0 then some true else sureO (∃ s a1 xs b T m1 ys ts M, CountOK k a0_0 l0_1 s a1 xs b T m1 ys ts M)
set_option maxHeartbeats 16000000 in
set_option maxRecDepth 100000 in
theorem laws_FnExactCountsOf.good (k : Nat) (a0 : Int) (A : Option Addr) (cA : Nat) (l : List S57) (w : World) (hr : Kd.C k57 w A l.length l) (hc : l.length ≤ cA) (s a1 : Int) (xs : List S44) (b : Bool) (T : List R4) (m1 : Int) (ys : List S44) (ts : List R4) (M : Nat → Int) (h : CountOK k a0 l s a1 xs b T m1 ys ts M) :
  Calls Try.prog 3 #[.agg #[.int .i64 a0, .slice A l.length cA]] w fun e w' => e = .returned (.bool true) ∧ Below w.heap.size w w' := by
 have HR := Aside0.mk hr
 have HC := Aside0.mk hc
 have Q := Aside0.mk h
 clear hr hc h
 go_enter Try.func3, Try.ntmps3
 have K0 := Aside0.mk (heap_alloc_new w (.cells #[.int .i64 a0, .slice A l.length cA] 24))
 have B0 := Aside0.mk (below_alloc (Below.refl w.heap.size w) (.cells #[.int .i64 a0, .slice A l.length cA] 24))
 go_upto_region 2 with fail
 obtain ⟨W0, hW0⟩ : ∃ W0, W0 = w.alloc (.cells #[.int .i64 a0, .slice A l.length cA] 24) := ⟨_, rfl⟩
 obtain ⟨gA, hgA⟩ : ∃ gA, gA = w.heap.size := ⟨_, rfl⟩
 rw [← hW0] at K0 B0
 rw [← hgA] at K0
 try rw [← hW0]
 try rw [← hgA]
 clear hW0 hgA
 have a0_0 : W0.cell? ⟨gA, 0, none⟩ = some (.int .i64 a0) := (blk_cell K0.out 0).trans rfl
 have a0_1 : W0.cell? ⟨gA, 1, none⟩ = some (.slice A l.length cA) := (blk_cell K0.out 1).trans rfl
 go_upto_region 3 with (go_at_call 4; refine (laws_szLog.calls k a0 A cA l 1048576 s _ (Kd.C_below HR.out B0.out) HC.out Q.out.h0).mono ?_; rintro e w1 ⟨rfl, hb⟩; have K1 := Aside0.mk (blk_bel K0.out hb); have B1 := Aside0.mk (B0.out.trans (hb.mono B0.out.size)); clear hb)
 clear a0_0 a0_1 K0 B0
 have hs : decide (s < 0) = false := decide_eq_false Q.out.h1
 have a0_0 : w1.cell? ⟨gA, 0, none⟩ = some (.int .i64 a0) := (blk_cell K1.out 0).trans rfl
 have a0_1 : w1.cell? ⟨gA, 1, none⟩ = some (.slice A l.length cA) := (blk_cell K1.out 1).trans rfl
 go_upto_region 6 with (first | (go_at_call 6; refine (laws_toLog.calls k a0 A cA l a1 xs w1 (Kd.C_below HR.out B1.out) HC.out Q.out.h2).mono ?_; rintro e w2 ⟨v, rfl, hs2, hb⟩; obtain ⟨A1, c1, ev⟩ := Kd.S_slice hs2; subst ev; have C1 := Aside0.mk (Kd.S_reads' hs2).2.2; have L1 := Aside0.mk (Kd.S_reads' hs2).2.1; have K2 := Aside0.mk (blk_bel K1.out hb); have B2 := Aside0.mk (B1.out.trans (hb.mono B1.out.size)); clear hs2 hb) | (go_at_call 5; refine (specAll k a1 A1 c1 xs b T w2 C1.out L1.out Q.out.h3 Q.out.h4).mono ?_; rintro e w3 ⟨Aw, cw, gw, rfl, hR, hb⟩; have RW := Aside0.mk hR; have K3 := Aside0.mk (blk_bel K2.out hb); have B3 := Aside0.mk (B2.out.trans (hb.mono B2.out.size)); clear hR hb))
 clear a0_0 a0_1 K1 K2 B1 B2 C1 L1 hs
 have a0_0 : w3.cell? ⟨gA, 0, none⟩ = some (.int .i64 a0) := (blk_cell K3.out 0).trans rfl
 have a0_1 : w3.cell? ⟨gA, 1, none⟩ = some (.slice A l.length cA) := (blk_cell K3.out 1).trans rfl
 go_upto_region 7 with (go_at_call 6; refine (laws_toLog.calls k a0 A cA l a1 xs w3 (Kd.C_below HR.out B3.out) HC.out Q.out.h2).mono ?_; rintro e w4 ⟨v, rfl, hs2, hb⟩; obtain ⟨A4, c4, ev⟩ := Kd.S_slice hs2; subst ev; have S4 := Aside0.mk hs2; have K4 := Aside0.mk (blk_bel K3.out hb); have RW4 := Aside0.mk (RW.out.below hb); have BB4 := Aside0.mk hb; clear hs2 hb)
 clear a0_0 a0_1
 obtain ⟨W5, hW5⟩ : ∃ W5, W5 = w4.alloc (.cells #[.int .i64 a1, .slice A4 xs.length c4] 31) := ⟨_, rfl⟩
 obtain ⟨gX, hgX⟩ : ∃ gX, gX = w4.heap.size := ⟨_, rfl⟩
 have KX5 : Aside0 (W5.heap[gX]? = some (.cells #[.int .i64 a1, .slice A4 xs.length c4] 31 (0, 0))) := ⟨by rw [hW5, hgX]; exact heap_alloc_new w4 _⟩
 have b45 : Below w4.heap.size w4 W5 := by rw [hW5]; exact below_alloc (Below.refl _ _) _
 have K5 := Aside0.mk (blk_bel K4.out b45)
 have RW5 := Aside0.mk (RW4.out.below b45)
 have BB5 := Aside0.mk (BB4.out.trans (b45.mono BB4.out.size))
 have S5 : Aside0 (Kd.S k44 44 W5 w3.heap.size (fun k => k < w4.heap.size) (.slice A4 xs.length c4) xs) := ⟨Kd.S_below (Kd.S_mono (Kd.S_bound S4.out) (fun _ hk => hk.2.2.1)) b45⟩
 have SZ : Aside0 (w4.heap.size ≤ W5.heap.size) := ⟨b45.size⟩
 have BBS : Aside0 (w3.heap.size ≤ w4.heap.size) := ⟨BB4.out.size⟩
 try rw [← hW5]
 try rw [← hgX]
 clear hW5 hgX K4 RW4 BB4 S4 b45
 have x0_0 : W5.cell? ⟨gX, 0, none⟩ = some (.int .i64 a1) := (blk_cell KX5.out 0).trans rfl
 have x0_1 : W5.cell? ⟨gX, 1, none⟩ = some (.slice A4 xs.length c4) := (blk_cell KX5.out 1).trans rfl
 go_upto_region 8 with (go_at_call 7; refine (implAll k a1 A4 c4 xs b T W5 (Kd.S_reads' S5.out).2.2 (Kd.S_reads' S5.out).2.1 Q.out.h3 Q.out.h5).mono ?_; rintro e w6 ⟨Ag, cg, gg, rfl, hR, hb⟩; have RG6 := Aside0.mk hR; have KX6 := Aside0.mk (blk_bel KX5.out hb); have K6 := Aside0.mk (blk_bel K5.out hb); have RW6 := Aside0.mk (RW5.out.below hb); have BB6 := Aside0.mk (BB5.out.trans (hb.mono BB5.out.size)); have S6 := Aside0.mk (Kd.S_below S5.out hb); have SZ6 := Aside0.mk hb.size; clear hR hb)
 clear x0_0 x0_1 KX5 K5 RW5 BB5 S5
 go_upto_region 10 with (go_at_call 8; refine (eqSS k T Q.out.h7 Q.out.h6 w6 RG6.out RW6.out).mono ?_; rintro e w7 ⟨rfl, hb⟩; have RG7 := Aside0.mk (RG6.out.below hb); have KX7 := Aside0.mk (blk_bel KX6.out hb); have K7 := Aside0.mk (blk_bel K6.out hb); have RW7 := Aside0.mk (RW6.out.below hb); have BB7 := Aside0.mk (BB6.out.trans (hb.mono BB6.out.size)); have S7 := Aside0.mk (Kd.S_below S6.out hb); clear hb)
 clear RG6 KX6 K6 RW6 BB6 S6
 have x0_0 : w7.cell? ⟨gX, 0, none⟩ = some (.int .i64 a1) := (blk_cell KX7.out 0).trans rfl
 have x0_1 : w7.cell? ⟨gX, 1, none⟩ = some (.slice A4 xs.length c4) := (blk_cell KX7.out 1).trans rfl
 have a0_0 : w7.cell? ⟨gA, 0, none⟩ = some (.int .i64 a0) := (blk_cell K7.out 0).trans rfl
 have a0_1 : w7.cell? ⟨gA, 1, none⟩ = some (.slice A l.length cA) := (blk_cell K7.out 1).trans rfl
 have BW7 := Aside0.mk (B3.out.trans (BB7.out.mono B3.out.size))
 go_cut [45] (fun v45 wc => v45 = .bool false ∧ Aside0 (Below w7.heap.size w7 wc))
 case first =>
  go_region_with (first | (go_at_call 6; refine (laws_toLog.calls k a0 A cA l a1 xs _ (by repeat (first | exact Kd.C_below HR.out BW7.out | (with_reducible refine Kd.C_drewN ?_ _) | (with_reducible refine Kd.C_drew ?_))) HC.out Q.out.h2).mono ?_; rintro e w8 ⟨v, rfl, hs2, hb⟩; obtain ⟨A8, c8, ev⟩ := Kd.S_slice hs2; subst ev; have C8 := Aside0.mk (Kd.S_reads' hs2).2.2; have L8 := Aside0.mk (Kd.S_reads' hs2).2.1; have B8 := Aside0.mk (show Below w7.heap.size w7 w8 from by first | exact hb | exact (below_drew (Below.refl _ _)).trans hb | exact (pw_below_drewN (Below.refl _ _) _).trans hb); have x1_0 : w8.cell? ⟨gX, 0, none⟩ = some (.int .i64 a1) := (blk_cell (blk_bel KX7.out B8.out) 0).trans rfl; have x1_1 : w8.cell? ⟨gX, 1, none⟩ = some (.slice A4 xs.length c4) := (blk_cell (blk_bel KX7.out B8.out) 1).trans rfl; clear hs2 hb) | (go_at_call 9; refine (laws_eqLog.calls k a1 A4 c4 xs a1 A8 c8 xs true _ (by repeat (first | exact Kd.C_below (Kd.S_reads' S7.out).2.2 B8.out | (with_reducible refine Kd.C_drewN ?_ _) | (with_reducible refine Kd.C_drew ?_))) (Kd.S_reads' S7.out).2.1 (by repeat (first | exact C8.out | (with_reducible refine Kd.C_drewN ?_ _) | (with_reducible refine Kd.C_drew ?_))) L8.out Q.out.h8).mono ?_; rintro e w9 ⟨rfl, hb⟩; have B9 := Aside0.mk (show Below w7.heap.size w7 w9 from by first | exact B8.out.trans (hb.mono B8.out.size) | exact (below_drew B8.out).trans (hb.mono B8.out.size) | exact (pw_below_drewN B8.out _).trans (hb.mono B8.out.size)); clear hb))
  all_goals (go_wp2; go_meet)
  all_goals exact ⟨rfl, B9⟩
 case rest =>
  rename World => wc
  obtain ⟨rfl, BC⟩ := hcut
  clear x0_0 x0_1 a0_0 a0_1
  have RGc := Aside0.mk (RG7.out.below BC.out)
  have KXc := Aside0.mk (blk_bel KX7.out BC.out)
  have BBc := Aside0.mk (BB7.out.trans (BC.out.mono BB7.out.size))
  have Sc := Aside0.mk (Kd.S_below S7.out BC.out)
  clear RG7 KX7 K7 RW7 BB7 S7 BW7
  have x0_0 : wc.cell? ⟨gX, 0, none⟩ = some (.int .i64 a1) := (blk_cell KXc.out 0).trans rfl
  have x0_1 : wc.cell? ⟨gX, 1, none⟩ = some (.slice A4 xs.length c4) := (blk_cell KXc.out 1).trans rfl
  go_upto_region 14 with (go_at_call 10; refine (laws_markLog.calls k a1 (fun k => k < w4.heap.size) (.slice A4 xs.length c4) xs 1 m1 ys w3 wc BBc.out Sc.out Q.out.h9).mono ?_; rintro e w10 ⟨rfl, _, hb, hkp⟩; have RG10 := Aside0.mk (RGc.out.keep (fun k hk hbk => hkp.2 k hk (by have := SZ.out; omega))); have BB10 := Aside0.mk hb; have RW10 := Aside0.mk (RW.out.below hb); have K10 := Aside0.mk (blk_bel K3.out hb); clear hb hkp)
  clear x0_0 x0_1 RGc KXc BBc Sc
  have hm1 : decide (m1 < 0) = false := decide_eq_false (by have := Q.out.h10; omega)
  go_upto_region 17 with (go_at_call 8; refine (eqSS k T Q.out.h7 Q.out.h6 w10 RG10.out RW10.out).mono ?_; rintro e w11 ⟨rfl, hb⟩; have RG11 := Aside0.mk (RG10.out.below hb); have BB11 := Aside0.mk (BB10.out.trans (hb.mono BB10.out.size)); clear hb)
  clear RG10 BB10 RW10 K10 hm1
  have SZ3 : Aside0 (w3.heap.size ≤ W5.heap.size) := ⟨Nat.le_trans BBS.out SZ.out⟩
  have hq : decide (M T.length < 0) = false := decide_eq_false (by have := Q.out.h15 T.length; omega)
  go_upto_region 24 with (first | (go_at_call 11; have h := markSS k T ts M Q.out.h11 Q.out.h13 Q.out.h6 w3 w11 (RG11.out.lower SZ3.out) BB11.out; rw [Q.out.h12] at h; refine h.mono ?_; clear h; rintro e w12 ⟨rfl, hR, hb⟩; have R12 := Aside0.mk hR; have BB12 := Aside0.mk hb; clear hR hb) | (go_at_call 12; have h := heldSS k ts M Q.out.h14 Q.out.h15 (by rw [Q.out.h11]; exact Q.out.h6) w12 (by rw [Q.out.h11]; exact R12.out); rw [Q.out.h11, Q.out.h12] at h; refine h.mono ?_; clear h; rintro e w13 ⟨rfl, hb⟩; have R13 := Aside0.mk (R12.out.below hb); have BB13 := Aside0.mk (BB12.out.trans (hb.mono BB12.out.size)); clear hb))
  clear RG11 BB11 R12 BB12
  have K13 := Aside0.mk (blk_bel K3.out BB13.out)
  have RW13 := Aside0.mk (RW.out.below BB13.out)
  have a0_0 : w13.cell? ⟨gA, 0, none⟩ = some (.int .i64 a0) := (blk_cell K13.out 0).trans rfl
  have a0_1 : w13.cell? ⟨gA, 1, none⟩ = some (.slice A l.length cA) := (blk_cell K13.out 1).trans rfl
  have BW13 := Aside0.mk (B3.out.trans (BB13.out.mono B3.out.size))
  go_upto_region 25 with (first | (go_at_call 6; refine (laws_toLog.calls k a0 A cA l a1 xs w13 (Kd.C_below HR.out BW13.out) HC.out Q.out.h2).mono ?_; rintro e w14 ⟨v, rfl, hs2, hb⟩; obtain ⟨A14, c14, ev⟩ := Kd.S_slice hs2; subst ev; have C14 := Aside0.mk (Kd.S_reads' hs2).2.2; have L14 := Aside0.mk (Kd.S_reads' hs2).2.1; have R14 := Aside0.mk (R13.out.below hb); have RW14 := Aside0.mk (RW13.out.below hb); have BB14 := Aside0.mk (BB13.out.trans (hb.mono BB13.out.size)); clear hs2 hb) | (go_at_call 7; refine (implAll k a1 A14 c14 xs b T w14 C14.out L14.out Q.out.h3 Q.out.h5).mono ?_; rintro e w15 ⟨Ah, ch, gh, rfl, hR, hb⟩; have RH15 := Aside0.mk hR; have R15 := Aside0.mk (R14.out.below hb); have RW15 := Aside0.mk (RW14.out.below hb); have BB15 := Aside0.mk (BB14.out.trans (hb.mono BB14.out.size)); clear hR hb))
  clear a0_0 a0_1 K13 RW13 R13 BB13 R14 RW14 BB14 C14 L14
  go_upto_region 28 with (go_at_call 8; refine (eqSS k T Q.out.h7 Q.out.h6 w15 RH15.out RW15.out).mono ?_; rintro e w16 ⟨rfl, hb⟩; have R16 := Aside0.mk (R15.out.below hb); have BB16 := Aside0.mk (BB15.out.trans (hb.mono BB15.out.size)); clear hb)
  clear RH15 R15 RW15 BB15
  go_wp2_with (go_at_call 12; have h := heldSS k ts M Q.out.h14 Q.out.h15 (by rw [Q.out.h11]; exact Q.out.h6) w16 (by rw [Q.out.h11]; exact R16.out); rw [Q.out.h11, Q.out.h12] at h; refine h.mono ?_; clear h; rintro e w17 ⟨rfl, hb⟩; have BB17 := Aside0.mk (BB16.out.trans (hb.mono BB16.out.size)); clear hb)
  go_ret
  exact ⟨rfl, B3.out.trans (BB17.out.mono B3.out.size)⟩
set_option maxHeartbeats 16000000 in
set_option maxRecDepth 100000 in
theorem laws_FnExactCountsOf.calls (k : Nat) (a0_0 : Int) (A0_1 : Option Addr) (c0_1 : Nat) (l0_1 : List (S57)) (r : Bool) (w : World) (hr0_1 : Kd.C k57 w A0_1 l0_1.length l0_1) (hc0_1 : l0_1.length ≤ c0_1) (h : laws_FnExactCountsOf.f k a0_0 l0_1 = some r) :
  Calls Try.prog 3 #[.agg #[.int .i64 a0_0, .slice A0_1 l0_1.length c0_1]] w fun e w' => e = .returned (.bool r) ∧ Below w.heap.size w w' := by
 unfold laws_FnExactCountsOf.f at h
 obtain ⟨s, hs, h⟩ := Option.bind_eq_some_iff.mp h
 by_cases c : s < 0
 ·rw [if_pos c] at h
  injection h with h
  subst h
  have HR := Aside0.mk hr0_1
  have HC := Aside0.mk hc0_1
  have HS := Aside0.mk hs
  clear hr0_1 hc0_1 hs
  go_enter Try.func3, Try.ntmps3
  have K0 := Aside0.mk (heap_alloc_new w (.cells #[.int .i64 a0_0, .slice A0_1 l0_1.length c0_1] 24))
  have B0 := Aside0.mk (below_alloc (Below.refl w.heap.size w) (.cells #[.int .i64 a0_0, .slice A0_1 l0_1.length c0_1] 24))
  go_upto_region 2 with fail
  have h00 : (w.alloc (.cells #[.int .i64 a0_0, .slice A0_1 l0_1.length c0_1] 24)).cell? ⟨w.heap.size, 0, none⟩ = some (.int .i64 a0_0) := (blk_cell K0.out 0).trans rfl
  have h01 : (w.alloc (.cells #[.int .i64 a0_0, .slice A0_1 l0_1.length c0_1] 24)).cell? ⟨w.heap.size, 1, none⟩ = some (.slice A0_1 l0_1.length c0_1) := (blk_cell K0.out 1).trans rfl
  have q : decide (s < 0) = true := decide_eq_true c
  go_wp2_with (go_at_call 4; refine (laws_szLog.calls k a0_0 A0_1 c0_1 l0_1 1048576 s _ (Kd.C_below HR.out B0.out) HC.out HS.out).mono ?_; rintro e w1 ⟨rfl, hb⟩; have B1 := Aside0.mk (B0.out.trans (hb.mono B0.out.size)); clear hb)
  go_ret
  exact ⟨rfl, B1.out⟩
 ·rw [if_neg c] at h
  obtain ⟨⟨s, a1, xs, b, T, m1, ys, ts, M, hq⟩, rfl⟩ := sureO_some h
  exact laws_FnExactCountsOf.good k a0_0 A0_1 c0_1 l0_1 w hr0_1 hc0_1 s a1 xs b T m1 ys ts M hq

instance : Inhabited S57 := ⟨z57⟩
def Q57 (x : S57) : Prop := (Lit.int .i64 x.f0).wf = true ∧ (Lit.int .i64 x.f1).wf = true ∧ (Lit.int .i64 x.f2).wf = true ∧ x.f3.size ≤ 9223372036854775807 ∧ (Lit.int .i64 x.f4).wf = true ∧ True ∧ (Lit.int .i64 x.f6).wf = true ∧ (x.f7.length ≤ 9223372036854775807 ∧ ∀ y ∈ x.f7, (Lit.int .i64 y).wf = true)
theorem opens57 : Opens Try.prog 57 k57 Q57 := opens_struct Try.underlying57 (by kernel_rfl) (opensF_cons rfl (by kernel_rfl) (opens_int Try.underlying2) (opensF_cons rfl (by kernel_rfl) (opens_int Try.underlying2) (opensF_cons rfl (by kernel_rfl) (opens_int Try.underlying2) (opensF_cons rfl (by kernel_rfl) (opens_string Try.underlying9) (opensF_cons rfl (by kernel_rfl) (opens_int Try.underlying2) (opensF_cons rfl (by kernel_rfl) (opens_bool Try.underlying4) (opensF_cons rfl (by kernel_rfl) (opens_int Try.underlying2) (opensF_one rfl (by kernel_rfl) (opens_slice Try.underlying41 (by kernel_rfl) (opens_int Try.underlying2)))))))))) (fun x : S57 => (x.f0, x.f1, x.f2, x.f3, x.f4, x.f5, x.f6, x.f7)) (fun y => ⟨y.1, y.2.1, y.2.2.1, y.2.2.2.1, y.2.2.2.2.1, y.2.2.2.2.2.1, y.2.2.2.2.2.2.1, y.2.2.2.2.2.2.2⟩) (fun _ => rfl)
/-- THE ONE PURE STATEMENT of laws_FnExactCountsOf. -/
def laws_FnExactCountsOf.Pure : Prop := ∀ (a0_0 : Int) (l0_1 : List (S57)), (Lit.int .i64 a0_0).wf = true → (l0_1.length ≤ 9223372036854775807 ∧ ∀ y ∈ l0_1, Q57 y) → ∃ k, laws_FnExactCountsOf.f k a0_0 l0_1 = some true
theorem laws_FnExactCountsOf.walk (P : laws_FnExactCountsOf.Pure) (a0_0 : Int) (A0_1 : Option Addr) (c0_1 : Nat) (l0_1 : List (S57)) (w : World) (hr0_1 : Kd.C k57 w A0_1 l0_1.length l0_1) (hc0_1 : l0_1.length ≤ c0_1) (hq0_0 : (Lit.int .i64 a0_0).wf = true) (hq0_1 : (l0_1.length ≤ 9223372036854775807 ∧ ∀ y ∈ l0_1, Q57 y)) :
  Calls Try.prog 3 #[.agg #[.int .i64 a0_0, .slice A0_1 l0_1.length c0_1]] w fun e w' => e = .returned (.bool true) ∧ Below w.heap.size w w' := by
 obtain ⟨k, h⟩ := P a0_0 l0_1 hq0_0 hq0_1
 refine (laws_FnExactCountsOf.calls k a0_0 _ _ l0_1 true w hr0_1 hc0_1 h).mono ?_
 rintro e w' ⟨rfl, hd⟩
 exact ⟨rfl, hd⟩

end Go.Proofs.Ytallocgnpbpbhab.XFnExactCountsOf
