-- Written by a program of this session (wip/xprint: over the kit's print). Not trusted: Lean checks it.
import Derived.Test.YtgpiaeklhhacjaaXFnHeldx0
import Derived.Test.YtgpiaeklhhacjaaXFnHeldx2
import Derived.Test.YtgpiaeklhhacjaaXFnHeldx3
import Derived.Test.YtgpiaeklhhacjaaXFnHeldx4
namespace Go.Proofs.Ytgpiaeklhhacjaa.XFnHeld
open Go.RowKit Go.Proofs.YtgpiaeklhhacjaaW.PrintWords Go.Proofs.YtgpiaeklhhacjaaW.PrintLast Go.Proofs.YtgpiaeklhhacjaaW.PrintMore
open Go.Proofs.Ytgpiaeklhhacjaa.XW
attribute [local go_sem] max2_int min2_int max_two min_two max_three min_three max_four min_four   -- for this text's walks alone
set_option linter.unusedVariables false
set_option linter.unusedSimpArgs false

/-! ### impl_SendAll: function 40 (by hand; numbers of the seat jaa) -/
def part (f : S58 → S58) (bs : List S58) (i : Nat) : List S58 := (bs.take i).map f ++ bs.drop i
theorem part_len (f : S58 → S58) (bs : List S58) (i : Nat) : (part f bs i).length = bs.length := by
 unfold part; rw [List.length_append, List.length_map, List.length_take, List.length_drop]; omega
theorem part_at (f : S58 → S58) (bs : List S58) (i : Nat) (hi : i < bs.length) : (part f bs i).getD i z58 = bs[i] := by
 unfold part
 rw [List.getD_eq_getElem?_getD, List.getElem?_append_right (by rw [List.length_map, List.length_take]; omega), List.length_map, List.length_take, Nat.min_eq_left (by omega), Nat.sub_self, List.getElem?_drop, Nat.add_zero, List.getElem?_eq_getElem hi]; rfl
theorem part_set (f : S58 → S58) (bs : List S58) (i : Nat) (hi : i < bs.length) : (part f bs i).set i (f bs[i]) = part f bs (i + 1) := by
 unfold part
 rw [List.set_append_right _ _ (by rw [List.length_map, List.length_take]; omega), List.length_map, List.length_take, Nat.min_eq_left (by omega), Nat.sub_self, List.drop_eq_getElem_cons hi, List.set_cons_zero, List.take_succ_eq_append_getElem hi, List.map_append, List.append_assoc]
 rfl
theorem part_end (f : S58 → S58) (bs : List S58) : part f bs bs.length = bs.map f := by unfold part; rw [List.take_length, List.drop_length, List.append_nil]
/-- What 'trim' leaves of a box. -/
def fitB (n : Nat) (b : S58) : S58 := if n < b.f3.length then ⟨b.f0, b.f1, wrap64 (b.f2 + ((b.f3.length - n : Nat) : Int)), b.f3.drop (b.f3.length - n)⟩ else b
theorem set_getD_self (l : List S58) (i : Nat) (h : i < l.length) : l.set i (l.getD i z58) = l := by
 rw [List.getD_eq_getElem?_getD, List.getElem?_eq_getElem h]; exact List.set_getElem_self h
set_option maxHeartbeats 8000000 in
set_option maxRecDepth 100000 in
theorem fit_keep {W : World} {g o n len c : Nat} {A : Option Addr} (hc : W.cell? ⟨g, o + 3, none⟩ = some (.slice A len c)) (hn : len ≤ n) (hnb : n ≤ 1000) :
  Calls Try.prog 89 #[.pointer (some ⟨g, o, none⟩), .int .i64 n] W fun e w' => e = .returned (.tuple #[]) ∧ w' = W := by
 have hw : wrap64 ((len : Int) - (n : Int)) = (len : Int) - (n : Int) := by unfold wrap64; omega
 have hlt : (0 < (len : Int) - (n : Int)) = False := eq_false (by omega)
 go_enter Try.func89, Try.ntmps89
 go_wp2
 exact bodyPost_end (results_none rfl _ _ _) rfl ⟨rfl, rfl⟩
set_option maxHeartbeats 8000000 in
set_option maxRecDepth 100000 in
theorem fit_cut {W : World} {base g o n c g3 : Nat} {ok : Nat → Prop} {l : List S60} {mi : Int} {cs : Array Value} (hb : W.heap[g]? = some (.cells cs 58 (0, 0))) (hc2 : W.cell? ⟨g, o + 2, none⟩ = some (.int .i64 mi)) (hc : W.cell? ⟨g, o + 3, none⟩ = some (.slice (some ⟨g3, 0, none⟩) l.length c))
  (hR : Kd.R k60 60 W base ok (.slice (some ⟨g3, 0, none⟩) l.length c) l) (hn : n < l.length) (hn1 : 1 ≤ n) (hl : l.length ≤ 1000) :
  Calls Try.prog 89 #[.pointer (some ⟨g, o, none⟩), .int .i64 n] W fun e w' => e = .returned (.tuple #[]) ∧ ∃ w2 A' c', Kd.R k60 60 w2 W.heap.size (fun _ => True) (.slice A' (l.drop (l.length - n)).length c') (l.drop (l.length - n)) ∧ Below W.heap.size W w2 ∧
   w' = (w2.setCell ⟨g, o + 3, none⟩ (.slice A' (l.drop (l.length - n)).length c')).setCell ⟨g, o + 2, none⟩ (.int .i64 (wrap64 (mi + ((l.length : Int) - (n : Int))))) := by
 have hw : wrap64 ((l.length : Int) - (n : Int)) = (l.length : Int) - (n : Int) := by unfold wrap64; omega
 have hgt : (0 < (l.length : Int) - (n : Int)) = True := eq_true (by omega)
 have h1 : ¬ (l.length : Int) - (n : Int) < 0 := by omega
 have h2 : (l.length : Int) - (n : Int) ≤ (l.length : Int) := by omega
 have h3 : ((l.length : Int) - (n : Int)).toNat = l.length - n := by omega
 have hlc := (Kd.R_reads' hR).2.1
 have hcm : (c = l.length - n) = False := eq_false (by omega)
 have RR := Aside0.mk hR
 have BB := Aside0.mk hb
 have hf3 := blk_frozen hb (o + 3)
 have hf2 := blk_frozen hb (o + 2)
 have HB := Aside0.mk (Below.refl W.heap.size W)
 have hd3 : (W.alloc (.cells #[] 60)).cell? ⟨g, o + 3, none⟩ = some (.slice (some ⟨g3, 0, none⟩) l.length c) := (blk_cell (blk_alloc hb _) _).trans ((blk_cell hb _).symm.trans hc)
 have CC0 := Kd.C_drop (m := l.length - n) (Kd.C_alloc (Kd.R_reads' hR).2.2 (.cells #[] 60)) (by omega) hlc
 rw [if_neg (by omega), List.length_drop] at CC0
 have CC : Aside0 (Kd.C k60 (W.alloc (.cells #[] 60)) (some ⟨g3, (l.length - n) * 2, none⟩) (l.length - (l.length - n)) (l.drop (l.length - n))) := ⟨by simpa [Addr.add, show k60.sz = 2 from rfl, show ¬ (l.length - n) * 2 = 0 from by omega] using CC0⟩
 have LIT : Aside0 (Kd.R k60 60 (W.alloc (.cells #[] 60)) W.heap.size (fun _ => True) (.slice (some ⟨W.heap.size, 0, none⟩) 0 0) ([] : List S60)) := ⟨mkP (l := []) (cap := 0) (cur := #[]) trivial (Nat.le_refl _) (heap_alloc_new W _) (Nat.le_refl _) (by decide) rfl rfl⟩
 have ALB := Aside0.mk (below_alloc (Below.refl W.heap.size W) (.cells #[] 60))
 clear CC0
 clear hR hb
 go_enter Try.func89, Try.ntmps89
 go_wp2_with ((with_reducible refine gate_builtin (b := .append) (xs := #[.tmp 15, .tmp 21]) rfl ?_); at_builtin; refine Kd.R_append_rows k60 (w0 := W) W.heap.size rfl (.tmp 15) (.tmp 21) 52 60 (.agg #[(.int .i64 0), (.int .i64 0)]) 16 rfl Try.underlying52 info60 rfl (by decide) (by omega) (.slice (some ⟨W.heap.size, 0, none⟩) 0 0) ([] : List S60) (l.drop (l.length - n)) _ _ _ (fun _ => True) (fun _ => False) rfl rfl LIT.out CC.out (fun _ _ h => h) (fun _ h => h.elim) (fun _ _ => trivial) ALB.out ALB.out.size (by simp only [List.length_nil]; omega) ?_; clear hd3; intro v2 w2 ho hb _ _; rw [List.nil_append] at ho; obtain ⟨A', c', e4⟩ := Kd.R_slice ho; subst e4; have HR2 := Aside0.mk ho; have HB2 := Aside0.mk hb; have CB2 := Aside0.mk (blk_bel BB.out hb); have hy3 : w2.cell? ⟨g, o + 3, none⟩ = some (.slice (some ⟨g3, 0, none⟩) l.length c) := (blk_cell CB2.out _).trans ((blk_cell BB.out _).symm.trans hc); have hy2 : w2.cell? ⟨g, o + 2, none⟩ = some (.int .i64 mi) := (blk_cell CB2.out _).trans ((blk_cell BB.out _).symm.trans hc2); have hyf3 := blk_frozen CB2.out (o + 3); have hyf2 := blk_frozen CB2.out (o + 2); clear ho hb)
 have HR3 := HR2.out
 rw [List.length_drop] at HR3
 exact bodyPost_end (results_none rfl _ _ _) rfl ⟨rfl, w2, A', c', HR3, HB2.out, rfl⟩
set_option maxHeartbeats 8000000 in
set_option maxRecDepth 100000 in
theorem trim_keep {W : World} {g o n len c : Nat} {A : Option Addr} (hc : W.cell? ⟨g, o + 3, none⟩ = some (.slice A len c)) (hn : len ≤ n) (hnb : n ≤ 1000) :
  Calls Try.prog 92 #[.pointer (some ⟨g, o, none⟩), .int .i64 n] W fun e w' => e = .returned (.tuple #[]) ∧ w' = W := by
 have hw : wrap64 ((len : Int) - (n : Int)) = (len : Int) - (n : Int) := by unfold wrap64; omega
 have hlt : (0 < (len : Int) - (n : Int)) = False := eq_false (by omega)
 go_enter Try.func92, Try.ntmps92
 go_wp2
 exact bodyPost_end (results_none rfl _ _ _) rfl ⟨rfl, rfl⟩
set_option maxHeartbeats 8000000 in
set_option maxRecDepth 100000 in
theorem trim_cut {W : World} {base g o n c : Nat} {ok : Nat → Prop} {A : Option Addr} {l : List S60} {mi : Int} {cs : Array Value} (hb : W.heap[g]? = some (.cells cs 58 (0, 0))) (hc2 : W.cell? ⟨g, o + 2, none⟩ = some (.int .i64 mi)) (hc : W.cell? ⟨g, o + 3, none⟩ = some (.slice A l.length c))
  (hR : Kd.R k60 60 W base ok (.slice A l.length c) l) (hn : n < l.length) (hl : l.length ≤ 1000) :
  Calls Try.prog 92 #[.pointer (some ⟨g, o, none⟩), .int .i64 n] W fun e w' => e = .returned (.tuple #[]) ∧ ∃ w2 A' c', Kd.R k60 60 w2 base ok (.slice A' (l.drop (l.length - n)).length c') (l.drop (l.length - n)) ∧ (Value.slice A' (l.drop (l.length - n)).length c').ownBlock = (Value.slice A l.length c).ownBlock ∧ W.grownBy w2 (Value.slice A l.length c).ownBlock ∧
   w' = (w2.setCell ⟨g, o + 3, none⟩ (.slice A' (l.drop (l.length - n)).length c')).setCell ⟨g, o + 2, none⟩ (.int .i64 (wrap64 (mi + ((l.length : Int) - (n : Int))))) := by
 have hw : wrap64 ((l.length : Int) - (n : Int)) = ((l.length - n : Nat) : Int) := by unfold wrap64; omega
 have hgt : (0 < ((l.length - n : Nat) : Int)) = True := eq_true (by omega)
 have RR := Aside0.mk hR
 have BB := Aside0.mk hb
 have hf3 := blk_frozen hb (o + 3)
 have hf2 := blk_frozen hb (o + 2)
 have DR0 := delete_row 0 (l.length - n) (by omega) (by omega) hR
 rw [show ((l.length - n : Nat) : Int) = (l.length : Int) - (n : Int) from by omega, List.take_zero, List.nil_append] at DR0
 have DR := Aside0.mk DR0
 clear hR hb DR0
 go_enter Try.func92, Try.ntmps92
 go_wp2_with (go_at_call 104; refine DR.out.mono ?_; rintro e w2 ⟨u', rfl, hr2, hown, hg2⟩; obtain ⟨A', c', e4⟩ := Kd.R_slice hr2; subst e4; have HG2 := Aside0.mk hg2; have HR2 := Aside0.mk hr2; have HOW := Aside0.mk hown; have CB2 := Aside0.mk (blk_grown BB.out hg2 (Kd.R_ne RR.out BB.out (by decide))); have hy3 : w2.cell? ⟨g, o + 3, none⟩ = some (.slice A l.length c) := (blk_cell CB2.out _).trans ((blk_cell BB.out _).symm.trans hc); have hy2 : w2.cell? ⟨g, o + 2, none⟩ = some (.int .i64 mi) := (blk_cell CB2.out _).trans ((blk_cell BB.out _).symm.trans hc2); have hyf3 := blk_frozen CB2.out (o + 3); have hyf2 := blk_frozen CB2.out (o + 2); clear hr2 hown hg2)
 exact bodyPost_end (results_none rfl _ _ _) rfl ⟨rfl, w2, A', c', HR2.out, HOW.out, HG2.out, by rw [List.length_drop]⟩
theorem fitB_cut {n : Nat} {b : S58} (h : n < b.f3.length) : fitB n b = ⟨b.f0, b.f1, wrap64 (b.f2 + ((b.f3.length : Int) - (n : Int))), b.f3.drop (b.f3.length - n)⟩ := by
 unfold fitB; rw [if_pos h]; congr 2; omega
theorem fitB_keep {n : Nat} {b : S58} (h : ¬ n < b.f3.length) : fitB n b = b := by unfold fitB; rw [if_neg h]
/-- An element of a row of boxes, trimmed through its pointer. -/
theorem trim_elem {W : World} {base gb cap m n i : Nat} {ok : Nat → Prop} {xs : List S58} {b : S58} (hS : Kd.S k58 58 W base ok (.slice (some ⟨gb, 0, none⟩) m cap) xs) (hi : i < m) (hb : xs.getD i z58 = b) (hl : b.f3.length ≤ 1000) (hn : n ≤ 1000) (hbase : base ≤ W.heap.size) :
  Calls Try.prog 92 #[.pointer (some ⟨gb, i * 4, none⟩), .int .i64 n] W fun e w' => e = .returned (.tuple #[]) ∧ Kd.S k58 58 w' base ok (.slice (some ⟨gb, 0, none⟩) m cap) (xs.set i (fitB n b)) ∧ Below base W w' ∧ Kept W w' ok := by
 have hm := (Kd.S_reads' hS).1
 obtain ⟨gb', cap', eb, hgb, hgb2, cellsb, hcb⟩ := Kd.S_form hS (by omega)
 injection eb with e1 _ _
 injection e1 with e1
 injection e1 with e1
 subst e1
 have hokg : ok gb := hS.choose_spec.1 gb (by simp [Value.ownBlock])
 obtain ⟨oki, c, hcl, hM, hcc, hfr, hoki, hH⟩ := Kd.S_elem hS z58 (i : Int) (by omega) (by omega)
 rw [Int.toNat_natCast, hb] at hM
 rw [Int.toNat_natCast] at hcc hfr
 obtain ⟨v3, rfl, hR⟩ := k58_openM hM
 obtain ⟨A3, c3, e3⟩ := Kd.R_slice hR
 subst e3
 have hx2 : W.cell? ⟨gb, i * 4 + 2, none⟩ = some (.int .i64 b.f2) := hcc 2 _ rfl
 have hx3 : W.cell? ⟨gb, i * 4 + 3, none⟩ = some (.slice A3 b.f3.length c3) := hcc 3 _ rfl
 by_cases hfit : n < b.f3.length
 ·rw [fitB_cut hfit]
  refine (trim_cut (W := W) (o := i * 4) hcb hx2 hx3 hR hfit hl).mono ?_
  rintro e w3 ⟨rfl, w2, A4, c4, hr3, hown, hg2, rfl⟩
  have HM2 : k58.M w2 base oki (⟨b.f0, b.f1, b.f2, b.f3.drop (b.f3.length - n)⟩ : S58) [.string b.f0, .int .i64 b.f1, .int .i64 b.f2, .slice A4 (List.drop (b.f3.length - n) b.f3).length c4] := k58_mkM w2 base _ (⟨b.f0, b.f1, b.f2, b.f3.drop (b.f3.length - n)⟩ : S58) hr3
  have HS3 := (Kd.S_seg0 (Kd.H_grown hH hg2 (fun k hk => hR.1 k hk)) (by omega) (by omega) (seg := [.slice A4 (List.drop (b.f3.length - n) b.f3).length c4]) (j := 3) (Nat.le_refl 4) (x' := (⟨b.f0, b.f1, b.f2, b.f3.drop (b.f3.length - n)⟩ : S58)) HM2 (fun k hk => hk)).1
  obtain ⟨okj, c', _, hM', _, _, _, hH'⟩ := Kd.S_elem HS3 z58 (i : Int) (by omega) (by omega)
  rw [Int.toNat_natCast, List.getD_eq_getElem?_getD, List.getElem?_set_self (by omega), Option.getD_some] at hM'
  obtain ⟨v4, rfl, hR4⟩ := k58_openM hM'
  have HS5 := (Kd.S_seg0 hH' (by omega) (by omega) (seg := [.int .i64 (wrap64 (b.f2 + ((b.f3.length : Int) - (n : Int))))]) (j := 2) (show 3 ≤ 4 from by decide) (x' := (⟨b.f0, b.f1, wrap64 (b.f2 + ((b.f3.length : Int) - (n : Int))), b.f3.drop (b.f3.length - n)⟩ : S58)) (k58_mkM _ base okj (⟨b.f0, b.f1, wrap64 (b.f2 + ((b.f3.length : Int) - (n : Int))), b.f3.drop (b.f3.length - n)⟩ : S58) hR4) (fun _ hk => hk)).1
  rw [Int.toNat_natCast, List.set_set] at HS5
  exact ⟨rfl, HS5, (((Below.refl base W).grown hg2 hbase (fun k hk => Kd.R_base hR k hk)).setCell (p := ⟨gb, i * 4 + 3, none⟩) hgb _).setCell (p := ⟨gb, i * 4 + 2, none⟩) hgb _, ((Kept.of_grown hg2 (Kept.refl W ok) (fun k hk => .inl (hoki k (hR.1 k hk)).1)).setCell (p := ⟨gb, i * 4 + 3, none⟩) (.inl hokg) _).setCell (p := ⟨gb, i * 4 + 2, none⟩) (.inl hokg) _⟩
 ·rw [fitB_keep hfit]
  refine (trim_keep (W := W) (g := gb) (o := i * 4) (n := n) hx3 (by omega) hn).mono ?_
  rintro e w3 ⟨rfl, rfl⟩
  refine ⟨rfl, ?_, Below.refl _ _, Kept.refl _ _⟩
  rw [← hb, set_getD_self _ _ (by omega)]
  exact hS
/-- An element of a row of boxes, trimmed through its pointer. -/
theorem fit_elem {W : World} {base gb cap m n i : Nat} {ok : Nat → Prop} {xs : List S58} {b : S58} (hS : Kd.S k58 58 W base ok (.slice (some ⟨gb, 0, none⟩) m cap) xs) (hi : i < m) (hb : xs.getD i z58 = b) (hl : b.f3.length ≤ 1000) (hn : n ≤ 1000) (hbase : base ≤ W.heap.size) (hfresh : ∀ k, W.heap.size ≤ k → ok k) (hn1 : 1 ≤ n) :
  Calls Try.prog 89 #[.pointer (some ⟨gb, i * 4, none⟩), .int .i64 n] W fun e w' => e = .returned (.tuple #[]) ∧ Kd.S k58 58 w' base ok (.slice (some ⟨gb, 0, none⟩) m cap) (xs.set i (fitB n b)) ∧ Below base W w' ∧ Kept W w' ok := by
 have hm := (Kd.S_reads' hS).1
 obtain ⟨gb', cap', eb, hgb, hgb2, cellsb, hcb⟩ := Kd.S_form hS (by omega)
 injection eb with e1 _ _
 injection e1 with e1
 injection e1 with e1
 subst e1
 have hokg : ok gb := hS.choose_spec.1 gb (by simp [Value.ownBlock])
 obtain ⟨oki, c, hcl, hM, hcc, hfr, hoki, hH⟩ := Kd.S_elem hS z58 (i : Int) (by omega) (by omega)
 rw [Int.toNat_natCast, hb] at hM
 rw [Int.toNat_natCast] at hcc hfr
 obtain ⟨v3, rfl, hR⟩ := k58_openM hM
 obtain ⟨A3, c3, e3⟩ := Kd.R_slice hR
 subst e3
 have hx2 : W.cell? ⟨gb, i * 4 + 2, none⟩ = some (.int .i64 b.f2) := hcc 2 _ rfl
 have hx3 : W.cell? ⟨gb, i * 4 + 3, none⟩ = some (.slice A3 b.f3.length c3) := hcc 3 _ rfl
 by_cases hfit : n < b.f3.length
 ·rw [fitB_cut hfit]
  obtain ⟨g3, cap3, e3, _, _, _⟩ := Kd.R_form hR (by omega)
  injection e3 with eA3 _ eC3
  subst eA3
  subst eC3
  refine (fit_cut (W := W) (o := i * 4) hcb hx2 hx3 hR hfit hn1 hl).mono ?_
  rintro e w3 ⟨rfl, w2, A4, c4, hr2, hb2, rfl⟩
  have hr3 := Kd.R_lower (Kd.R_mono (Kd.R_bound hr2) (ok' := fun k => W.heap.size ≤ k) (fun k h => h.2.1)) hbase
  have HM2 : k58.M w2 base (fun k => W.heap.size ≤ k) (⟨b.f0, b.f1, b.f2, b.f3.drop (b.f3.length - n)⟩ : S58) [.string b.f0, .int .i64 b.f1, .int .i64 b.f2, .slice A4 (List.drop (b.f3.length - n) b.f3).length c4] := k58_mkM w2 base _ (⟨b.f0, b.f1, b.f2, b.f3.drop (b.f3.length - n)⟩ : S58) hr3
  have HS3 := (Kd.S_seg0 (Kd.H_below (Kd.H_widen hH) hb2) (by omega) (by omega) (seg := [.slice A4 (List.drop (b.f3.length - n) b.f3).length c4]) (j := 3) (Nat.le_refl 4) (x' := (⟨b.f0, b.f1, b.f2, b.f3.drop (b.f3.length - n)⟩ : S58)) HM2 (fun k hk => .inr ⟨hfresh k hk, hk⟩)).1
  obtain ⟨okj, c', _, hM', _, _, _, hH'⟩ := Kd.S_elem HS3 z58 (i : Int) (by omega) (by omega)
  rw [Int.toNat_natCast, List.getD_eq_getElem?_getD, List.getElem?_set_self (by omega), Option.getD_some] at hM'
  obtain ⟨v4, rfl, hR4⟩ := k58_openM hM'
  have HS5 := (Kd.S_seg0 hH' (by omega) (by omega) (seg := [.int .i64 (wrap64 (b.f2 + ((b.f3.length : Int) - (n : Int))))]) (j := 2) (show 3 ≤ 4 from by decide) (x' := (⟨b.f0, b.f1, wrap64 (b.f2 + ((b.f3.length : Int) - (n : Int))), b.f3.drop (b.f3.length - n)⟩ : S58)) (k58_mkM _ base okj (⟨b.f0, b.f1, wrap64 (b.f2 + ((b.f3.length : Int) - (n : Int))), b.f3.drop (b.f3.length - n)⟩ : S58) hR4) (fun _ hk => hk)).1
  rw [Int.toNat_natCast, List.set_set] at HS5
  exact ⟨rfl, HS5, ((hb2.mono hbase).setCell (p := ⟨gb, i * 4 + 3, none⟩) hgb _).setCell (p := ⟨gb, i * 4 + 2, none⟩) hgb _, ((Kept.of_below hb2 ok).setCell (p := ⟨gb, i * 4 + 3, none⟩) (.inl hokg) _).setCell (p := ⟨gb, i * 4 + 2, none⟩) (.inl hokg) _⟩
 ·rw [fitB_keep hfit]
  refine (fit_keep (W := W) (g := gb) (o := i * 4) (n := n) hx3 (by omega) hn).mono ?_
  rintro e w3 ⟨rfl, rfl⟩
  refine ⟨rfl, ?_, Below.refl _ _, Kept.refl _ _⟩
  rw [← hb, set_getD_self _ _ (by omega)]
  exact hS
def sendB (n : Nat) (has : Int → Bool) (p : S60) (b : S58) : S58 := if has b.f1 = true then fitB n ⟨b.f0, b.f1, b.f2, b.f3 ++ [p]⟩ else b
def cntB (has : Int → Bool) (bs : List S58) (i : Nat) : Nat := ((bs.take i).filter fun b => has b.f1).length
theorem cntB_zero (has : Int → Bool) (bs : List S58) : cntB has bs 0 = 0 := rfl
theorem cntB_succ (has : Int → Bool) (bs : List S58) (i : Nat) (hi : i < bs.length) : cntB has bs (i + 1) = cntB has bs i + (if has bs[i].f1 = true then 1 else 0) := by
 unfold cntB
 rw [List.take_succ_eq_append_getElem hi, List.filter_append, List.length_append]
 congr 1
 by_cases c : has bs[i].f1 = true
 ·simp [c]
 ·simp [c]
theorem cntB_le (has : Int → Bool) (bs : List S58) (i : Nat) : cntB has bs i ≤ bs.length := Nat.le_trans (List.length_filter_le _ _) (by rw [List.length_take]; omega)
set_option maxHeartbeats 16000000 in
set_option maxRecDepth 100000 in
theorem send_calls (k n : Nat) (hn : n ≤ 1000) (has : Int → Bool) (ms : List Int) (A1 : Option Addr) (c1 : Nat) (hmc : ms.length ≤ c1) (p : S60) (bs : List S58) (hbl : ∀ b ∈ bs, b.f3.length ≤ 900) (hbn : bs.length ≤ 1000)
  (hhas : ∀ b ∈ bs, slices_Contains_int64_int64.f k ms b.f1 = some (has b.f1)) {W : World} {base gO : Nat} {v : Value} {ok : Nat → Prop} (hbase : base ≤ W.heap.size)
  (hC : ∀ W', Below base W W' → Kd.C (Kd.int .i64) W' A1 ms.length ms) (hK : W.heap[gO]? = some (.cells #[.int .i64 n, v] 29 (0, 0))) (hS : Kd.S k58 58 W base ok v bs) (hfresh : ∀ k, W.heap.size ≤ k → ok k) (hokO : ¬ ok gO) :
  Calls Try.prog 84 #[.pointer (some ⟨gO, 0, none⟩), .slice A1 ms.length c1, .agg #[.int .i64 p.f0, .int .i64 p.f1]] W fun e w' => e = .returned (.int .i64 (cntB has bs bs.length)) ∧ Kd.S k58 58 w' base ok v (bs.map (sendB n has p)) ∧ Below base W w' ∧ Kept W w' ok := by
 obtain ⟨Av, cv, ev⟩ := Kd.S_slice hS
 subst ev
 have hgO := blk_lt hK
 have HC := Aside0.mk hC
 have HBL := Aside0.mk hbl
 have HH := Aside0.mk hhas
 have OKO := Aside0.mk hokO
 have FR := Aside0.mk hfresh
 have K0 := Aside0.mk hK
 obtain ⟨ok', hok'⟩ : ∃ ok' : Nat → Prop, ok' = fun k => ok k ∧ k ≠ W.heap.size := ⟨_, rfl⟩
 have EOK := Aside0.mk hok'
 have P1 := Aside0.mk (heap_alloc_new W (.cells #[.int .i64 p.f0, .int .i64 p.f1] 60))
 have K1 := Aside0.mk (blk_alloc hK (.cells #[.int .i64 p.f0, .int .i64 p.f1] 60))
 have S1 := Aside0.mk (Kd.S_alloc (Kd.S_mono (Kd.S_bound hS) (ok' := ok') (fun k h => by rw [hok']; exact ⟨h.1, by have := h.2.2.1; omega⟩)) (.cells #[.int .i64 p.f0, .int .i64 p.f1] 60))
 have B1 := Aside0.mk ((below_alloc (Below.refl W.heap.size W) (.cells #[.int .i64 p.f0, .int .i64 p.f1] 60)).mono hbase)
 have z1 : (W.alloc (.cells #[.int .i64 p.f0, .int .i64 p.f1] 60)).heap.size = W.heap.size + 1 := by simp
 have hc1 : (W.alloc (.cells #[.int .i64 p.f0, .int .i64 p.f1] 60)).cell? ⟨gO, 1, none⟩ = some (.slice Av bs.length cv) := (blk_cell K1.out 1).trans rfl
 obtain ⟨W1, hW1⟩ : ∃ W1, W1 = W.alloc (.cells #[.int .i64 p.f0, .int .i64 p.f1] 60) := ⟨_, rfl⟩
 have hNO : ¬ ok' gO := by rw [hok']; exact fun h => hokO h.1
 have hNP : ¬ ok' W.heap.size := by rw [hok']; exact fun h => h.2 rfl
 have hF' : ∀ k, W1.heap.size ≤ k → ok' k := by rw [hok', hW1, z1]; exact fun k h => ⟨hfresh k (by omega), by omega⟩
 have NO := Aside0.mk hNO
 have NP := Aside0.mk hNP
 have F1 := Aside0.mk hF'
 have E1 := Aside0.mk hW1
 clear hK hS hC hbl hhas hokO hfresh hok' hNO hNP hF' hW1
 go_enter Try.func84, Try.ntmps84
 go_wp2
 have P1' : Aside0 (W1.heap[W.heap.size]? = some (.cells #[.int .i64 p.f0, .int .i64 p.f1] 60 (0, 0))) := ⟨by rw [E1.out]; exact P1.out⟩
 have K1' : Aside0 (W1.heap[gO]? = some (.cells #[.int .i64 n, .slice Av bs.length cv] 29 (0, 0))) := ⟨by rw [E1.out]; exact K1.out⟩
 have S1' : Aside0 (Kd.S k58 58 W1 base ok' (.slice Av bs.length cv) (part (sendB n has p) bs 0)) := ⟨by rw [E1.out, show part (sendB n has p) bs 0 = bs by simp [part]]; exact S1.out⟩
 have B1' : Aside0 (Below base W W1) := ⟨by rw [E1.out]; exact B1.out⟩
 rw [← E1.out]
 clear P1 K1 S1 B1 hc1
 go_loopg [7, 8, 9, 15] bs.length (fun gg s7 _ _ s15 wr => ∃ i : Nat, i ≤ bs.length ∧ bs.length - i ≤ gg ∧ s7 = .int .i64 (cntB has bs i) ∧ s15 = .int .i64 i ∧ Aside0 (Kd.S k58 58 wr base ok' (.slice Av bs.length cv) (part (sendB n has p) bs i)) ∧ Aside0 (Below base W wr) ∧ Aside0 (Kept W1 wr ok'))
 case atStart => exact ⟨0, Nat.zero_le _, by omega, by rw [cntB_zero]; rfl, rfl, S1', B1', ⟨Kept.refl _ _⟩⟩
 case round =>
  clear S1' B1' K1' P1'
  obtain ⟨i, hi, hgg, rfl, rfl, HS, HB, KP⟩ := hrel
  have hcn := cntB_le has bs i
  have hwc : wrap64 ((cntB has bs i : Int) + 1) = (cntB has bs i : Int) + 1 := by unfold wrap64; omega
  by_cases hlt : i < bs.length
  ·have hltz : (i : Int) < (bs.length : Int) := by omega
   have HKr : Aside0 (wr.heap[gO]? = some (.cells #[.int .i64 n, .slice Av bs.length cv] 29 (0, 0))) := ⟨blk_kept (by rw [E1.out]; exact blk_alloc K0.out _) KP.out NO.out⟩
   have HPr : Aside0 (wr.heap[W.heap.size]? = some (.cells #[.int .i64 p.f0, .int .i64 p.f1] 60 (0, 0))) := ⟨blk_kept (by rw [E1.out]; exact heap_alloc_new W _) KP.out NP.out⟩
   obtain ⟨gb, cap, eb, hgb, hgb2, cellsb, hcb⟩ := Kd.S_form HS.out (by rw [part_len]; omega)
   rw [part_len] at eb
   injection eb with eA _ eC
   subst eA
   subst eC
   have hxi := part_at (sendB n has p) bs i hlt
   have hbk : bs[i].f3.length ≤ 900 := HBL.out _ (List.getElem_mem hlt)
   have hhk := HH.out _ (List.getElem_mem hlt)
   obtain ⟨oki, c, hcl, hM, hcc, hfr, hoki, hH⟩ := Kd.S_elem HS.out z58 (i : Int) (by omega) (by omega)
   rw [Int.toNat_natCast, hxi] at hM
   rw [Int.toNat_natCast] at hcc hfr
   obtain ⟨v3, rfl, hR⟩ := k58_openM hM
   obtain ⟨A3, c3, e3⟩ := Kd.R_slice hR
   subst e3
   have hx0 : wr.cell? ⟨gO, 1, none⟩ = some (.slice (some ⟨gb, 0, none⟩) bs.length cv) := (blk_cell HKr.out 1).trans rfl
   have hx1 : wr.cell? ⟨gb, i * 4 + 1, none⟩ = some (.int .i64 bs[i].f1) := hcc 1 _ rfl
   have CB := Aside0.mk hcb
   have RR := Aside0.mk hR
   have HHo := Aside0.mk hH
   have OKI := Aside0.mk hoki
   have hx3 := hcc 3 _ rfl
   have X3 := Aside0.mk hx3
   clear hR hM hcc hfr hcl hH hoki hcb hx3
   have CC := Aside0.mk (HC.out wr HB.out)
   cases hhb : has bs[i].f1 with
   | false =>
    rw [hhb] at hhk
    have HK2 := Aside0.mk hhk
    clear hhk
    go_wp2_with (go_at_call 116; refine (slices_Contains_int64_int64.calls k A1 c1 ms bs[i].f1 false wr CC.out hmc HK2.out).mono ?_; clear hx0 hx1; rintro e w5 ⟨rfl, hb5⟩; have HB5 := Aside0.mk (show Below wr.heap.size wr w5 from hb5.below); clear hb5)
    have hst : part (sendB n has p) bs (i + 1) = part (sendB n has p) bs i := by
     have h1 := part_set (sendB n has p) bs i hlt
     have h2 : sendB n has p bs[i] = bs[i] := by unfold sendB; rw [if_neg (by rw [hhb]; decide)]
     rw [← h1, h2, ← hxi]
     exact set_getD_self _ _ (by rw [part_len]; exact hlt)
    have hcnt : cntB has bs (i + 1) = cntB has bs i := by rw [cntB_succ _ _ _ hlt, hhb]; rfl
    have HS6 := Aside0.mk (Kd.S_below HS.out HB5.out)
    rw [← hst] at HS6
    have HB6 := Aside0.mk (HB.out.trans (HB5.out.mono (Nat.le_trans hbase HB.out.size)))
    have KP6 := Aside0.mk (KP.out.below HB5.out)
    clear hst
    go_wp2
    go_roundg (bs.length - (i + 1))
    all_goals (first | omega | exact ⟨i + 1, by omega, by omega, by rw [hcnt], by simp, HS6, HB6, KP6⟩)
   | true =>
    rw [hhb] at hhk
    have HK2 := Aside0.mk hhk
    clear hhk
    go_wp2_with (go_at_call 116; refine (slices_Contains_int64_int64.calls k A1 c1 ms bs[i].f1 true wr CC.out hmc HK2.out).mono ?_; clear hx0 hx1; rintro e w5 ⟨rfl, hb5⟩; have HB5 := Aside0.mk (show Below wr.heap.size wr w5 from hb5.below); clear hb5)
    have hb5s : base ≤ wr.heap.size := Nat.le_trans hbase HB.out.size
    have CB5 := Aside0.mk (blk_bel CB.out HB5.out)
    have HP5 := Aside0.mk (blk_bel HPr.out HB5.out)
    have R5 := Aside0.mk (Kd.R_below RR.out HB5.out)
    have BW5 := Aside0.mk (HB.out.trans (HB5.out.mono hb5s))
    have KP5 := Aside0.mk (KP.out.below HB5.out)
    have hokg : ok' gb := HS.out.choose_spec.1 gb (by simp [Value.ownBlock])
    obtain ⟨ok7, hok7⟩ : ∃ ok7 : Nat → Prop, ok7 = fun k => oki k ∨ ok' k ∧ w5.heap.size ≤ k := ⟨_, rfl⟩
    have E7 := Aside0.mk hok7
    have hz5 : (w5.alloc (.cells #[.int .i64 p.f0, .int .i64 p.f1] 60)).drew.heap.size = w5.heap.size + 1 := by simp
    have hW15 : W1.heap.size ≤ w5.heap.size := KP5.out.1
    have H7 : Aside0 (Kd.H k58 58 (w5.alloc (.cells #[.int .i64 p.f0, .int .i64 p.f1] 60)).drew base ok' (.slice (some ⟨gb, 0, none⟩) bs.length cv) (part (sendB n has p) bs i) i ok7 [.string bs[i].f0, .int .i64 bs[i].f1, .int .i64 bs[i].f2, .slice A3 bs[i].f3.length c3]) := ⟨by rw [hok7]; exact Kd.H_drew (Kd.H_alloc (Kd.H_widen (Kd.H_below HHo.out HB5.out)) _)⟩
    have R7 : Aside0 (Kd.R k60 60 (w5.alloc (.cells #[.int .i64 p.f0, .int .i64 p.f1] 60)).drew base ok7 (.slice A3 bs[i].f3.length c3) bs[i].f3) := ⟨by rw [hok7]; exact Kd.R_mono (Kd.R_drew (Kd.R_alloc R5.out _)) (fun k h => .inl h)⟩
    have CB7 : Aside0 ((w5.alloc (.cells #[.int .i64 p.f0, .int .i64 p.f1] 60)).drew.heap[gb]? = some (.cells cellsb 58 (0, 0))) := ⟨blk_alloc CB5.out (.cells #[.int .i64 p.f0, .int .i64 p.f1] 60)⟩
    have LIT : Aside0 (Kd.R k60 60 (w5.alloc (.cells #[.int .i64 p.f0, .int .i64 p.f1] 60)).drew base (fun _ => True) (.slice (some ⟨w5.heap.size, 0, none⟩) 1 1) [p]) := ⟨mkP (l := [p]) (cap := 1) (cur := #[.int .i64 p.f0, .int .i64 p.f1]) trivial (Nat.le_trans hb5s HB5.out.size) (heap_alloc_new w5 _) (Nat.le_refl _) (by decide) rfl rfl⟩
    have BA := Aside0.mk (BW5.out.alloc (Nat.le_trans hb5s HB5.out.size) (.cells #[.int .i64 p.f0, .int .i64 p.f1] 60)).drew
    have hF7 : ∀ k, (w5.alloc (.cells #[.int .i64 p.f0, .int .i64 p.f1] 60)).drew.heap.size ≤ k → ok7 k := by rw [hok7, hz5]; exact fun k h => .inr ⟨F1.out k (by omega), by omega⟩
    have F7 := Aside0.mk hF7
    have SZA : base ≤ (w5.alloc (.cells #[.int .i64 p.f0, .int .i64 p.f1] 60)).drew.heap.size := by rw [hz5]; have := HB5.out.size; omega
    have hl3 : w5.cell? ⟨gb, i * 4 + 3, none⟩ = some (.slice A3 bs[i].f3.length c3) := (blk_cell CB5.out _).trans ((blk_cell CB.out _).symm.trans X3.out)
    have hlp0 : w5.cell? ⟨W.heap.size, 0, none⟩ = some (.int .i64 p.f0) := (blk_cell HP5.out 0).trans rfl
    have hlp1 : w5.cell? ⟨W.heap.size, 1, none⟩ = some (.int .i64 p.f1) := (blk_cell HP5.out 1).trans rfl
    have hla : (w5.alloc (.cells #[.int .i64 p.f0, .int .i64 p.f1] 60)).cell? ⟨gb, i * 4 + 3, none⟩ = some (.slice A3 bs[i].f3.length c3) := (blk_cell (show (w5.alloc (.cells #[.int .i64 p.f0, .int .i64 p.f1] 60)).heap[gb]? = _ from CB7.out) _).trans ((blk_cell CB.out _).symm.trans X3.out)
    clear hok7 hF7
    go_wp2_with fail
    go_region_law (refine Kd.R_append_rows_step k60 (w0 := W) base (by simp [Region.wanted]) (.tmp 34) (.tmp 36) 52 60 (.agg #[(.int .i64 0), (.int .i64 0)]) 16 rfl Try.underlying52 info60 rfl (by decide) (by omega) (.slice A3 bs[i].f3.length c3) bs[i].f3 [p] _ _ _ ok7 (fun _ => False) (by simp [Act.eval, Act.put]) (by simp [Act.eval, Act.put]; first | done | rfl) R7.out (Kd.R_reads' LIT.out).2.2 (fun _ _ h => h) (fun _ h => h.elim) F7.out BA.out SZA (by simp only [List.length_cons, List.length_nil]; omega) ?_; intro v6 w6 ho hb hg _; obtain ⟨A6, c6, e6⟩ := Kd.R_slice ho; subst e6; have R6 := Aside0.mk ho; have B6 := Aside0.mk hb; have G6 := Aside0.mk hg; have CB6 := Aside0.mk (blk_grown CB7.out hg (Kd.R_ne R7.out CB7.out (by decide))); have hy3 : w6.cell? ⟨gb, i * 4 + 3, none⟩ = some (.slice A3 bs[i].f3.length c3) := (blk_cell CB6.out _).trans ((blk_cell CB.out _).symm.trans X3.out); have hyf3 := blk_frozen CB6.out (i * 4 + 3); clear ho hb hg)
    all_goals
     have HM := k58_mkM w6 base ok7 (⟨bs[i].f0, bs[i].f1, bs[i].f2, bs[i].f3 ++ [p]⟩ : S58) R6.out
     have HS6 := (Kd.S_seg0 (Kd.H_grown H7.out G6.out (fun k hk => R7.out.1 k hk)) (by omega) (by omega) (seg := [.slice A6 (bs[i].f3 ++ [p]).length c6]) (j := 3) (Nat.le_refl 4) (x' := (⟨bs[i].f0, bs[i].f1, bs[i].f2, bs[i].f3 ++ [p]⟩ : S58)) HM (fun _ hk => hk)).1
     rw [Int.toNat_natCast] at HS6
     have BW6 := Aside0.mk (B6.out.setCell (p := ⟨gb, i * 4 + 3, none⟩) (Nat.le_trans (Nat.le_refl _) hgb) (.slice A6 (bs[i].f3 ++ [p]).length c6))
     have KP6 := Aside0.mk ((Kept.of_grown G6.out ((KP5.out.alloc (.cells #[.int .i64 p.f0, .int .i64 p.f1] 60)).drew) (fun k hk => .inl (by have h7 := R7.out.1 k hk; rw [E7.out] at h7; exact h7.elim (fun h => (OKI.out k h).1) (fun h => h.1)))).setCell (p := ⟨gb, i * 4 + 3, none⟩) (.inl hokg) (.slice A6 (bs[i].f3 ++ [p]).length c6))
     have HS6' := Aside0.mk HS6
     clear HM HS6 H7 R7 LIT R6 B6 G6 hl3 hla hlp0 hlp1 hy3 hyf3 HS HB KP KP5 BW5 BA R5 HB5 CC HHo RR CB HPr HKr HP5 CB5 CB7 CB6
     obtain ⟨wq, hwq⟩ : ∃ wq, wq = w6.setCell ⟨gb, i * 4 + 3, none⟩ (.slice A6 (bs[i].f3 ++ [p]).length c6) := ⟨_, rfl⟩
     have S7 : Aside0 (Kd.S k58 58 wq base ok' (.slice (some ⟨gb, 0, none⟩) bs.length cv) ((part (sendB n has p) bs i).set i (⟨bs[i].f0, bs[i].f1, bs[i].f2, bs[i].f3 ++ [p]⟩ : S58))) := ⟨by rw [hwq]; exact HS6'.out⟩
     rw [← hwq] at BW6 KP6
     first | rw [← hwq] | (simp only [List.length_append, List.length_cons, List.length_nil] at hwq ⊢; rw [← hwq])
     have HKq : Aside0 (wq.heap[gO]? = some (.cells #[.int .i64 n, .slice (some ⟨gb, 0, none⟩) bs.length cv] 29 (0, 0))) := ⟨blk_kept (by rw [E1.out]; exact blk_alloc K0.out _) KP6.out NO.out⟩
     have hxq : wq.cell? ⟨gO, 0, none⟩ = some (.int .i64 n) := (blk_cell HKq.out 0).trans rfl
     have TE := Aside0.mk (trim_elem (b := (⟨bs[i].f0, bs[i].f1, bs[i].f2, bs[i].f3 ++ [p]⟩ : S58)) (n := n) S7.out hlt (by rw [List.getD_eq_getElem?_getD, List.getElem?_set_self (by rw [part_len]; exact hlt)]; rfl) (by show (bs[i].f3 ++ [p]).length ≤ 1000; rw [List.length_append, List.length_cons, List.length_nil]; omega) hn (Nat.le_trans hbase BW6.out.size))
     clear HS6' hwq S7 HKq
     go_wp2_with (go_at_call 92; refine TE.out.mono ?_; clear hxq; rintro e w8 ⟨rfl, hs8, hb8, hk8⟩; have WC := Aside0.mk hwc; clear hz5 SZA hW15 hwc hltz; have S8 := Aside0.mk hs8; have B8 := Aside0.mk (BW6.out.trans hb8); have K8 := Aside0.mk (KP6.out.then_ hk8 (fun k h => .inl h)); clear hs8 hb8 hk8)
     have hsb : fitB n (⟨bs[i].f0, bs[i].f1, bs[i].f2, bs[i].f3 ++ [p]⟩ : S58) = sendB n has p bs[i] := by unfold sendB; rw [if_pos hhb]
     have hcnt : cntB has bs (i + 1) = cntB has bs i + 1 := by rw [cntB_succ _ _ _ hlt, hhb]; rfl
     have S9 := S8.out
     rw [List.set_set, hsb, part_set _ _ _ hlt] at S9
     have S10 := Aside0.mk S9
     clear S9 S8 hsb TE BW6 KP6
     go_roundg (bs.length - (i + 1))
     all_goals (first | omega | exact ⟨i + 1, by omega, by omega, by rw [hcnt]; first | rfl | simp | (rw [WC.out]; first | rfl | simp), by simp, S10, B8, K8⟩)
  ·have hieq : i = bs.length := by omega
   subst hieq
   rw [part_end] at HS
   go_wp2
   go_ret
   refine ⟨rfl, Kd.S_mono HS.out (fun k h => by rw [EOK.out] at h; exact h.1), HB.out, ?_⟩
   refine ⟨Nat.le_trans (by rw [E1.out, z1]; omega) KP.out.1, fun g hg hng => (KP.out.2 g (by rw [E1.out, z1]; omega) (fun h => by rw [EOK.out] at h; exact hng h.1)).trans (by rw [E1.out]; exact Below.heap_alloc W _ g hg)⟩
/-- What a post's boxes are after the first j parcels have been sent. -/
def hasI (ms : List Int) (x : Int) : Bool := ms.any fun y => decide (x = y)
def sentJ (n : Nat) (has : Int → Bool) (ps : List S60) (bs : List S58) (j : Nat) : List S58 := (ps.take j).foldl (fun l p => l.map (sendB n has p)) bs
theorem sentJ_zero (n : Nat) (has : Int → Bool) (ps : List S60) (bs : List S58) : sentJ n has ps bs 0 = bs := rfl
theorem sentJ_succ (n : Nat) (has : Int → Bool) (ps : List S60) (bs : List S58) (j : Nat) (hj : j < ps.length) : sentJ n has ps bs (j + 1) = (sentJ n has ps bs j).map (sendB n has ps[j]) := by
 unfold sentJ
 rw [List.take_succ_eq_append_getElem hj, List.foldl_append]
 rfl
theorem sentJ_inv (n : Nat) (has : Int → Bool) (ps : List S60) (j : Nat) (P : List S58 → Prop) (hs : ∀ l p, P l → P (l.map (sendB n has p))) : ∀ bs, P bs → P (sentJ n has ps bs j) := by
 unfold sentJ
 generalize ps.take j = l
 induction l with
 | nil => exact fun bs h => h
 | cons p l ih => exact fun bs h => ih _ (hs _ _ h)
theorem fitB_f1 (n : Nat) (b : S58) : (fitB n b).f1 = b.f1 := by unfold fitB; split <;> rfl
theorem fitB_len (n : Nat) (b : S58) : (fitB n b).f3.length ≤ n := by
 unfold fitB
 split
 ·show (List.drop _ b.f3).length ≤ n
  rw [List.length_drop]; omega
 ·omega
theorem sendB_f1 (n : Nat) (has : Int → Bool) (p : S60) (b : S58) : (sendB n has p b).f1 = b.f1 := by
 unfold sendB
 split
 ·exact fitB_f1 _ _
 ·rfl
theorem sendB_len (n : Nat) (has : Int → Bool) (p : S60) (b : S58) (hn : n ≤ 64) (hb : b.f3.length ≤ 64) : (sendB n has p b).f3.length ≤ 64 := by
 unfold sendB
 split
 ·exact Nat.le_trans (fitB_len _ _) hn
 ·exact hb
/-- The boxes of members. -/
def cntA (has : Int → Bool) (bs : List S58) : Nat := (bs.filter fun b => has b.f1).length
theorem cntB_all (has : Int → Bool) (bs : List S58) : cntB has bs bs.length = cntA has bs := by unfold cntB cntA; rw [List.take_length]
theorem cntA_le (has : Int → Bool) (bs : List S58) : cntA has bs ≤ bs.length := List.length_filter_le _ _
theorem cntA_map (n : Nat) (has : Int → Bool) (p : S60) (l : List S58) : cntA has (l.map (sendB n has p)) = cntA has l := by
 unfold cntA
 rw [List.filter_map, List.length_map]
 congr 2
 funext b
 show has (sendB n has p b).f1 = has b.f1
 rw [sendB_f1]
theorem sentJ_len (n : Nat) (has : Int → Bool) (ps : List S60) (bs : List S58) (j : Nat) : (sentJ n has ps bs j).length = bs.length :=
 sentJ_inv n has ps j (fun l => l.length = bs.length) (fun l p h => by rw [List.length_map]; exact h) bs rfl
theorem sentJ_cnt (n : Nat) (has : Int → Bool) (ps : List S60) (bs : List S58) (j : Nat) : cntA has (sentJ n has ps bs j) = cntA has bs :=
 sentJ_inv n has ps j (fun l => cntA has l = cntA has bs) (fun l p h => by rw [cntA_map]; exact h) bs rfl
theorem sentJ_f3 (n : Nat) (has : Int → Bool) (ps : List S60) (bs : List S58) (j : Nat) (hn : n ≤ 64) (hb : ∀ b ∈ bs, b.f3.length ≤ 64) : ∀ b ∈ sentJ n has ps bs j, b.f3.length ≤ 64 :=
 sentJ_inv n has ps j (fun l => ∀ b ∈ l, b.f3.length ≤ 64) (fun l p h b hb => by
  obtain ⟨a, ha, rfl⟩ := List.mem_map.1 hb
  exact sendB_len n has p a hn (h a ha)) bs hb
theorem sentJ_all (n : Nat) (has : Int → Bool) (ps : List S60) (bs : List S58) (j : Nat) (P : Int → Prop) (hb : ∀ b ∈ bs, P b.f1) : ∀ b ∈ sentJ n has ps bs j, P b.f1 :=
 sentJ_inv n has ps j (fun l => ∀ b ∈ l, P b.f1) (fun l p h b hb => by
  obtain ⟨a, ha, rfl⟩ := List.mem_map.1 hb
  rw [sendB_f1]
  exact h a ha) bs hb
theorem Kept29 {W w' : World} {base : Nat} (hk : Kept W w' (fun k => base ≤ k ∧ ∀ cs, W.heap[k]? ≠ some (.cells cs 29 (0, 0)))) : ∀ g, g < W.heap.size → (∃ cs, W.heap[g]? = some (.cells cs 29 (0, 0))) → w'.heap[g]? = W.heap[g]? := fun g h1 h2 => hk.2 g h1 (fun h => h2.elim fun cs hc => h.2 cs hc)
/-- A row of boxes lies in blocks that are no post's. -/
theorem S_no29 {W : World} {base : Nat} {v : Value} {bs : List S58} (h : Kd.S k58 58 W base (fun _ => True) v bs) : Kd.S k58 58 W base (fun k => base ≤ k ∧ ∀ cs, W.heap[k]? ≠ some (.cells cs 29 (0, 0))) v bs :=
 Kd.S_mono (Kd.S_bound h) (fun k hk => by
  obtain ⟨_, h1, _, q, hq, cells, hc⟩ := hk
  refine ⟨h1, fun cs hcs => ?_⟩
  rw [hc] at hcs
  injection hcs with hcs
  injection hcs with _ hcs
  subst hcs
  revert hq
  decide)
/-- What a post becomes that is changed by 'do'; 'do' tells whether it can be done, the limit and the boxes then. -/
def changedF (k : Nat) (doF : Int → List S58 → Option (Bool × Int × List S58)) (lim : Int) (bs : List S58) : Option (Int × List S58 × Bool) :=
 (impl_ValidPost.f k lim bs).bind fun t1 => (if t1 = true then ((impl_clonePost.f k lim bs).bind fun t2 => ((doF t2.1 t2.2).bind fun t3 => (if t3.1 = true then ((impl_ValidPost.f k t3.2.1 t3.2.2).bind fun t4 => (if t4 = true then some (t3.2.1, t3.2.2, true) else some (0, [], false))) else some (0, [], false)))) else some (0, [], false))
/-- What is asked of 'do': of the call's own (from w on) it changes the post's block, its boxes' rows and what is new; of the rest it keeps 'St'. -/
def DoAt (fn : Nat) (lb : Array Value) (doF : Int → List S58 → Option (Bool × Int × List S58)) (St : Bool → List S58 → World → Prop) (w : World) : Prop :=
 ∀ (W : World) (gO : Nat) (lim : Int) (v : Value) (bs : List S58) (r : Bool × Int × List S58), Below w.heap.size w W → w.heap.size ≤ gO → W.heap[gO]? = some (.cells #[.int .i64 lim, v] 29 (0, 0)) → Kd.S k58 58 W w.heap.size (fun _ => True) v bs → doF lim bs = some r →
   Calls Try.prog fn (#[.pointer (some ⟨gO, 0, none⟩)] ++ lb) W fun e w' => e = .returned (.bool r.1) ∧ ∃ v', w'.heap[gO]? = some (.cells #[.int .i64 r.2.1, v'] 29 (0, 0)) ∧ Kd.S k58 58 w' w.heap.size (fun _ => True) v' r.2.2 ∧ St r.1 r.2.2 w' ∧ W.heap.size ≤ w'.heap.size ∧ ∀ g, w.heap.size ≤ g → g < W.heap.size → (∃ cs, W.heap[g]? = some (.cells cs 29 (0, 0))) → g ≠ gO → w'.heap[g]? = W.heap[g]?
theorem size_set (w : World) (p : Addr) (u : Value) : (w.setCell p u).heap.size = w.heap.size := by simp [World.setCell]
set_option maxHeartbeats 8000000 in
set_option maxRecDepth 100000 in
theorem changedPost_calls (k : Nat) (fn : Nat) (lb : Array Value) (eg : ∀ args w, (callFunc fn args).run Try.prog w = .ok (.enter fn args) w) (doF : Int → List S58 → Option (Bool × Int × List S58)) (St : Bool → List S58 → World → Prop) (w : World)
  (hSt0 : ∀ W, Below w.heap.size w W → St false [] W) (hmn : ∀ b bs W, St b bs W → St false [] W) (hSt1 : ∀ b bs W W', St b bs W → w.heap.size ≤ W.heap.size → Below W.heap.size W W' → St b bs W') (hSt2 : ∀ b bs W g j u, St b bs W → w.heap.size ≤ g → St b bs (W.setCell ⟨g, j, none⟩ u)) (hdo : DoAt fn lb doF St w)
  (a0 : Int) (A0 : Option Addr) (c0 : Nat) (l0 : List S58) (r1 : Int) (r2 : List S58) (r3 : Bool) (hr0 : Kd.C k58 w A0 l0.length l0) (hc0 : l0.length ≤ c0) (h : changedF k doF a0 l0 = some (r1, r2, r3)) :
  Calls Try.prog 81 #[.agg #[.int .i64 a0, .slice A0 l0.length c0], .func (.func fn) #[] lb] w fun e w' => ∃ v1_ : Value, e = .returned (.tuple #[.agg #[.int .i64 r1, v1_], .bool r3]) ∧ Kd.S k58 58 w' w.heap.size (fun _ => True) v1_ r2 ∧ St r3 r2 w' ∧ w.heap.size ≤ w'.heap.size := by
 unfold changedF at h
 obtain ⟨t1, h1, h⟩ := Option.bind_eq_some_iff.mp h
 have HR0 := Aside0.mk hr0
 have HC0 := Aside0.mk hc0
 have A1' := Aside0.mk h1
 have HS0 := Aside0.mk hSt0
 have HS1 := Aside0.mk hSt1
 have HS2 := Aside0.mk hSt2
 have HDO := Aside0.mk hdo
 have HMN := Aside0.mk hmn
 have b2 := Aside0.mk (blk_alloc (heap_alloc_new w (.cells #[.int .i64 a0, .slice A0 l0.length c0] 29)) (.cells #[.int .i64 0, .slice none 0 0] 29))
 have b4 := Aside0.mk (heap_alloc_new (w.alloc (.cells #[.int .i64 a0, .slice A0 l0.length c0] 29)) (.cells #[.int .i64 0, .slice none 0 0] 29))
 have bz : (w.alloc (.cells #[.int .i64 a0, .slice A0 l0.length c0] 29)).heap.size = w.heap.size + 1 := by simp
 rw [bz] at b4
 have HB0 := Aside0.mk (below_alloc (below_alloc (Below.refl w.heap.size w) (.cells #[.int .i64 a0, .slice A0 l0.length c0] 29)) (.cells #[.int .i64 0, .slice none 0 0] 29))
 clear hr0 hc0 h1 hSt0 hSt1 hSt2 hdo hmn bz
 cases t1 with
 | false =>
  rw [if_neg (by simp)] at h
  simp only [Option.some.injEq, Prod.mk.injEq] at h
  obtain ⟨rfl, rfl, rfl⟩ := h
  go_enter Try.func81, Try.ntmps81
  go_wp2_with (go_at_call 25; refine (impl_ValidPost.calls k a0 A0 c0 l0 false _ (by repeat (first | exact HR0.out | (with_reducible refine Kd.C_alloc ?_ _))) HC0.out A1'.out).mono ?_; rintro e w1 ⟨rfl, hb1⟩; have HB1 := Aside0.mk (HB0.out.trans (hb1.mono HB0.out.size)); have b4' := Aside0.mk (blk_bel b4.out hb1); clear hb1; have hz0 : w1.cell? ⟨w.heap.size + 1, 0, none⟩ = some (.int .i64 0) := (blk_cell b4'.out 0).trans rfl; have hz1 : w1.cell? ⟨w.heap.size + 1, 1, none⟩ = some (.slice none 0 0) := (blk_cell b4'.out 1).trans rfl; have hf0 := blk_frozen b4'.out 0; have hf1 := blk_frozen b4'.out 1)
  refine bodyPost_ret (results_ct rfl _ _ (w.heap.size + 1) 29 #[.int .i64 0, .slice none 0 0] (0, 0) _ rfl (by refine blk_put (cs := #[.int .i64 0, .slice none 0 0]) ?_ 1 _ rfl; refine blk_put (cs := #[.int .i64 0, .slice none 0 0]) ?_ 0 _ rfl; exact b4'.out) Try.underlying29 rfl (by kernel_rfl)) rfl ?_
  exact ⟨_, rfl, Kd.S_nil _ _ _ _ _, HS2.out _ _ _ _ _ _ (HS2.out _ _ _ _ _ _ (HS0.out _ HB1.out) (by omega)) (by omega), by simp only [size_set]; exact HB1.out.size⟩
 | true =>
  rw [if_pos rfl] at h
  obtain ⟨⟨lim1, bs1⟩, h2, h⟩ := Option.bind_eq_some_iff.mp h
  obtain ⟨⟨ok3, lim3, bs3⟩, h3, h⟩ := Option.bind_eq_some_iff.mp h
  simp only at h3 h
  have A2' := Aside0.mk h2
  have A3' := Aside0.mk h3
  clear h2 h3
  cases ok3 with
  | false =>
   rw [if_neg (by simp)] at h
   simp only [Option.some.injEq, Prod.mk.injEq] at h
   obtain ⟨rfl, rfl, rfl⟩ := h
   go_enter Try.func81, Try.ntmps81
   go_wp2_with (first | (go_at_call 25; (with_reducible refine (impl_ValidPost.calls k a0 A0 c0 l0 true _ ?s25 HC0.out A1'.out).mono ?_); (case s25 => repeat (first | exact HR0.out | (with_reducible refine Kd.C_alloc ?_ _))); rintro e w1 ⟨rfl, hb1⟩; have HB1 := Aside0.mk (HB0.out.trans (hb1.mono HB0.out.size)); have b4' := Aside0.mk (blk_bel b4.out hb1); have b2' := Aside0.mk (blk_bel b2.out hb1); clear hb1; have hp0 : w1.cell? ⟨w.heap.size, 0, none⟩ = some (.int .i64 a0) := (blk_cell b2'.out 0).trans rfl; have hp1 : w1.cell? ⟨w.heap.size, 1, none⟩ = some (.slice A0 l0.length c0) := (blk_cell b2'.out 1).trans rfl) | (go_at_call 114; refine (impl_clonePost.calls k a0 A0 c0 l0 lim1 bs1 w1 (Kd.C_below HR0.out HB1.out) HC0.out A2'.out).mono ?_; clear hp0 hp1; rintro e w2 ⟨v2, rfl, hs2, hb2⟩; obtain ⟨Av, cv, ev⟩ := Kd.S_slice hs2; subst ev; have HB2 := Aside0.mk (HB1.out.trans (hb2.mono HB1.out.size)); have b4'' := Aside0.mk (blk_bel b4'.out hb2); have S2 := Aside0.mk (Kd.S_lower hs2 HB1.out.size); clear hb2 hs2) | (go_at_fn fn; refine (HDO.out _ w2.heap.size lim1 (.slice Av bs1.length cv) bs1 (false, lim3, bs3) (below_alloc HB2.out _) HB2.out.size (heap_alloc_new w2 _) (Kd.S_alloc S2.out _) A3'.out).mono ?_; rintro e w3 ⟨rfl, v3, hk3, hs3, hst3, hsz3, hkeep3⟩; have hlt4 := blk_lt b4''.out; have b43 := Aside0.mk ((hkeep3 (w.heap.size + 1) (by omega) (by simp; omega) ⟨_, blk_alloc b4''.out _⟩ (by omega)).trans (blk_alloc b4''.out _)); have K3 := Aside0.mk hk3; have S3 := Aside0.mk hs3; have ST3 := Aside0.mk hst3; have SZ3 := Aside0.mk hsz3; clear hk3 hs3 hst3 hsz3 hkeep3 hlt4; have hz0 : w3.cell? ⟨w.heap.size + 1, 0, none⟩ = some (.int .i64 0) := (blk_cell b43.out 0).trans rfl; have hz1 : w3.cell? ⟨w.heap.size + 1, 1, none⟩ = some (.slice none 0 0) := (blk_cell b43.out 1).trans rfl; have hf0 := blk_frozen b43.out 0; have hf1 := blk_frozen b43.out 1))
   refine bodyPost_ret (results_ct rfl _ _ (w.heap.size + 1) 29 #[.int .i64 0, .slice none 0 0] (0, 0) _ rfl (by refine blk_put (cs := #[.int .i64 0, .slice none 0 0]) ?_ 1 _ rfl; refine blk_put (cs := #[.int .i64 0, .slice none 0 0]) ?_ 0 _ rfl; exact b43.out) Try.underlying29 rfl (by kernel_rfl)) rfl ?_
   exact ⟨_, rfl, Kd.S_nil _ _ _ _ _, HS2.out _ _ _ _ _ _ (HS2.out _ _ _ _ _ _ (HMN.out _ _ _ ST3.out) (by omega)) (by omega), by simp only [size_set]; have := SZ3.out; have := HB2.out.size; simp at *; omega⟩
  | true =>
   rw [if_pos rfl] at h
   obtain ⟨t4, h4, h⟩ := Option.bind_eq_some_iff.mp h
   have A4' := Aside0.mk h4
   clear h4
   cases t4 with
   | false =>
    rw [if_neg (by simp)] at h
    simp only [Option.some.injEq, Prod.mk.injEq] at h
    obtain ⟨rfl, rfl, rfl⟩ := h
    go_enter Try.func81, Try.ntmps81
    go_wp2_with (first | (go_at_call 25; (with_reducible refine (impl_ValidPost.calls k a0 A0 c0 l0 true _ ?s25 HC0.out A1'.out).mono ?_); (case s25 => repeat (first | exact HR0.out | (with_reducible refine Kd.C_alloc ?_ _))); rintro e w1 ⟨rfl, hb1⟩; have HB1 := Aside0.mk (HB0.out.trans (hb1.mono HB0.out.size)); have b4' := Aside0.mk (blk_bel b4.out hb1); have b2' := Aside0.mk (blk_bel b2.out hb1); clear hb1; have hp0 : w1.cell? ⟨w.heap.size, 0, none⟩ = some (.int .i64 a0) := (blk_cell b2'.out 0).trans rfl; have hp1 : w1.cell? ⟨w.heap.size, 1, none⟩ = some (.slice A0 l0.length c0) := (blk_cell b2'.out 1).trans rfl) | (go_at_call 114; refine (impl_clonePost.calls k a0 A0 c0 l0 lim1 bs1 w1 (Kd.C_below HR0.out HB1.out) HC0.out A2'.out).mono ?_; clear hp0 hp1; rintro e w2 ⟨v2, rfl, hs2, hb2⟩; obtain ⟨Av, cv, ev⟩ := Kd.S_slice hs2; subst ev; have HB2 := Aside0.mk (HB1.out.trans (hb2.mono HB1.out.size)); have b4'' := Aside0.mk (blk_bel b4'.out hb2); have S2 := Aside0.mk (Kd.S_lower hs2 HB1.out.size); clear hb2 hs2) | (go_at_fn fn; refine (HDO.out _ w2.heap.size lim1 (.slice Av bs1.length cv) bs1 (true, lim3, bs3) (below_alloc HB2.out _) HB2.out.size (heap_alloc_new w2 _) (Kd.S_alloc S2.out _) A3'.out).mono ?_; rintro e w3 ⟨rfl, v3, hk3, hs3, hst3, hsz3, hkeep3⟩; have hlt4 := blk_lt b4''.out; have b43 := Aside0.mk ((hkeep3 (w.heap.size + 1) (by omega) (by simp; omega) ⟨_, blk_alloc b4''.out _⟩ (by omega)).trans (blk_alloc b4''.out _)); have K3 := Aside0.mk hk3; have S3 := Aside0.mk hs3; have ST3 := Aside0.mk hst3; have SZ3 := Aside0.mk hsz3; clear hk3 hs3 hst3 hsz3 hkeep3 hlt4; obtain ⟨A3, c3, e3⟩ := Kd.S_slice S3.out; subst e3; have hq0 : w3.cell? ⟨w2.heap.size, 0, none⟩ = some (.int .i64 lim3) := (blk_cell K3.out 0).trans rfl; have hq1 : w3.cell? ⟨w2.heap.size, 1, none⟩ = some (.slice A3 bs3.length c3) := (blk_cell K3.out 1).trans rfl) | (go_at_call 25; (with_reducible refine (impl_ValidPost.calls k lim3 A3 c3 bs3 false _ ?s26 ?s27 A4'.out).mono ?_); (case s26 => exact (Kd.S_reads' S3.out).2.2); (case s27 => have := (Kd.S_reads' S3.out).2.1; exact this); clear hq0 hq1; rintro e w4 ⟨rfl, hb4⟩; have b44 := Aside0.mk (blk_bel b43.out hb4); have K4 := Aside0.mk (blk_bel K3.out hb4); have S4 := Aside0.mk (Kd.S_below S3.out hb4); have HSZ := Aside0.mk (show w.heap.size ≤ w3.heap.size from by have := SZ3.out; have := HB2.out.size; simp at *; omega); have ST4 := Aside0.mk (HS1.out _ _ _ _ ST3.out HSZ.out hb4); have SZ4 := Aside0.mk (Nat.le_trans HSZ.out hb4.size); clear hb4; have hz0 : w4.cell? ⟨w.heap.size + 1, 0, none⟩ = some (.int .i64 0) := (blk_cell b44.out 0).trans rfl; have hz1 : w4.cell? ⟨w.heap.size + 1, 1, none⟩ = some (.slice none 0 0) := (blk_cell b44.out 1).trans rfl; have hf0 := blk_frozen b44.out 0; have hf1 := blk_frozen b44.out 1))
    refine bodyPost_ret (results_ct rfl _ _ (w.heap.size + 1) 29 #[.int .i64 0, .slice none 0 0] (0, 0) _ rfl (by refine blk_put (cs := #[.int .i64 0, .slice none 0 0]) ?_ 1 _ rfl; refine blk_put (cs := #[.int .i64 0, .slice none 0 0]) ?_ 0 _ rfl; exact b44.out) Try.underlying29 rfl (by kernel_rfl)) rfl ?_
    exact ⟨_, rfl, Kd.S_nil _ _ _ _ _, HS2.out _ _ _ _ _ _ (HS2.out _ _ _ _ _ _ (HMN.out _ _ _ ST4.out) (by omega)) (by omega), by simp only [size_set]; exact SZ4.out⟩
   | true =>
    rw [if_pos rfl] at h
    simp only [Option.some.injEq, Prod.mk.injEq] at h
    obtain ⟨rfl, rfl, rfl⟩ := h
    go_enter Try.func81, Try.ntmps81
    go_wp2_with (first | (go_at_call 25; (with_reducible refine (impl_ValidPost.calls k a0 A0 c0 l0 true _ ?s25 HC0.out A1'.out).mono ?_); (case s25 => repeat (first | exact HR0.out | (with_reducible refine Kd.C_alloc ?_ _))); rintro e w1 ⟨rfl, hb1⟩; have HB1 := Aside0.mk (HB0.out.trans (hb1.mono HB0.out.size)); have b4' := Aside0.mk (blk_bel b4.out hb1); have b2' := Aside0.mk (blk_bel b2.out hb1); clear hb1; have hp0 : w1.cell? ⟨w.heap.size, 0, none⟩ = some (.int .i64 a0) := (blk_cell b2'.out 0).trans rfl; have hp1 : w1.cell? ⟨w.heap.size, 1, none⟩ = some (.slice A0 l0.length c0) := (blk_cell b2'.out 1).trans rfl) | (go_at_call 114; refine (impl_clonePost.calls k a0 A0 c0 l0 lim1 bs1 w1 (Kd.C_below HR0.out HB1.out) HC0.out A2'.out).mono ?_; clear hp0 hp1; rintro e w2 ⟨v2, rfl, hs2, hb2⟩; obtain ⟨Av, cv, ev⟩ := Kd.S_slice hs2; subst ev; have HB2 := Aside0.mk (HB1.out.trans (hb2.mono HB1.out.size)); have b4'' := Aside0.mk (blk_bel b4'.out hb2); have S2 := Aside0.mk (Kd.S_lower hs2 HB1.out.size); clear hb2 hs2) | (go_at_fn fn; refine (HDO.out _ w2.heap.size lim1 (.slice Av bs1.length cv) bs1 (true, lim3, bs3) (below_alloc HB2.out _) HB2.out.size (heap_alloc_new w2 _) (Kd.S_alloc S2.out _) A3'.out).mono ?_; rintro e w3 ⟨rfl, v3, hk3, hs3, hst3, hsz3, hkeep3⟩; have hlt4 := blk_lt b4''.out; have b43 := Aside0.mk ((hkeep3 (w.heap.size + 1) (by omega) (by simp; omega) ⟨_, blk_alloc b4''.out _⟩ (by omega)).trans (blk_alloc b4''.out _)); have K3 := Aside0.mk hk3; have S3 := Aside0.mk hs3; have ST3 := Aside0.mk hst3; have SZ3 := Aside0.mk hsz3; clear hk3 hs3 hst3 hsz3 hkeep3 hlt4; obtain ⟨A3, c3, e3⟩ := Kd.S_slice S3.out; subst e3; have hq0 : w3.cell? ⟨w2.heap.size, 0, none⟩ = some (.int .i64 lim3) := (blk_cell K3.out 0).trans rfl; have hq1 : w3.cell? ⟨w2.heap.size, 1, none⟩ = some (.slice A3 bs3.length c3) := (blk_cell K3.out 1).trans rfl) | (go_at_call 25; (with_reducible refine (impl_ValidPost.calls k lim3 A3 c3 bs3 true _ ?s26 ?s27 A4'.out).mono ?_); (case s26 => exact (Kd.S_reads' S3.out).2.2); (case s27 => have := (Kd.S_reads' S3.out).2.1; exact this); clear hq0 hq1; rintro e w4 ⟨rfl, hb4⟩; have b44 := Aside0.mk (blk_bel b43.out hb4); have K4 := Aside0.mk (blk_bel K3.out hb4); have S4 := Aside0.mk (Kd.S_below S3.out hb4); have HSZ := Aside0.mk (show w.heap.size ≤ w3.heap.size from by have := SZ3.out; have := HB2.out.size; simp at *; omega); have ST4 := Aside0.mk (HS1.out _ _ _ _ ST3.out HSZ.out hb4); have SZ4 := Aside0.mk (Nat.le_trans HSZ.out hb4.size); clear hb4; have hz0 : w4.cell? ⟨w.heap.size + 1, 0, none⟩ = some (.int .i64 0) := (blk_cell b44.out 0).trans rfl; have hz1 : w4.cell? ⟨w.heap.size + 1, 1, none⟩ = some (.slice none 0 0) := (blk_cell b44.out 1).trans rfl; have hf0 := blk_frozen b44.out 0; have hf1 := blk_frozen b44.out 1; have hq0 : w4.cell? ⟨w2.heap.size, 0, none⟩ = some (.int .i64 lim3) := (blk_cell K4.out 0).trans rfl; have hq1 : w4.cell? ⟨w2.heap.size, 1, none⟩ = some (.slice A3 bs3.length c3) := (blk_cell K4.out 1).trans rfl))
    refine bodyPost_ret (results_ct rfl _ _ (w.heap.size + 1) 29 #[.int .i64 lim3, .slice A3 bs3.length c3] (0, 0) _ rfl (by refine blk_put (cs := #[.int .i64 lim3, .slice none 0 0]) ?_ 1 _ rfl; refine blk_put (cs := #[.int .i64 0, .slice none 0 0]) ?_ 0 _ rfl; exact b44.out) Try.underlying29 rfl (by kernel_rfl)) rfl ?_
    exact ⟨_, rfl, Kd.S_mono (Kd.S_far (p := ⟨w.heap.size + 1, 1, none⟩) (Kd.S_far (p := ⟨w.heap.size + 1, 0, none⟩) (Kd.S_types S4.out b44.out (by decide)) (fun _ hk => hk.2) _) (fun _ hk => hk.2) _) (fun _ _ => trivial), HS2.out _ _ _ _ _ _ (HS2.out _ _ _ _ _ _ ST4.out (by omega)) (by omega), by simp only [size_set]; exact SZ4.out⟩
theorem grown_refl (w : World) (row : Option Nat) : w.grownBy w row := ⟨rfl, rfl, rfl, Nat.le_refl _, fun _ _ _ => rfl⟩
theorem grown_trans {w w1 w2 : World} {row : Option Nat} (h : w.grownBy w1 row) (hb : Below w1.heap.size w1 w2) : w.grownBy w2 row :=
 ⟨hb.os.trans h.os, hb.tape.trans h.tape, hb.output.trans h.output, Nat.le_trans h.size hb.size, fun k hk hne => (hb.block k (Nat.lt_of_lt_of_le hk h.size)).trans (h.block k hk hne)⟩
theorem grown_low {w w1 w2 : World} {g : Nat} (h : w.grownBy w1 (some g)) (hb : Below w.heap.size w1 w2) : w.grownBy w2 (some g) :=
 ⟨hb.os.trans h.os, hb.tape.trans h.tape, hb.output.trans h.output, Nat.le_trans h.size hb.size, fun k hk hne => (hb.block k hk).trans (h.block k hk hne)⟩
theorem grown_put {w w1 : World} {g j : Nat} {row : Option Nat} (h : w.grownBy w1 row) (hg : row = some g ∨ w.heap.size ≤ g) (u : Value) : w.grownBy (w1.setCell ⟨g, j, none⟩ u) row :=
 ⟨h.os, h.tape, h.output, by rw [size_set]; exact h.size, fun k hk hne => (Below.heap_setCell w1 ⟨g, j, none⟩ u k (fun e => hg.elim (fun hr => hne (by rw [hr, e])) (fun hl => by have : k = g := e; omega))).trans (h.block k hk hne)⟩
theorem grown_below {w w1 : World} {g base : Nat} (h : w.grownBy w1 (some g)) (hg : base ≤ g) (hw : g < w.heap.size) : Below base w w1 :=
 ⟨h.os, h.tape, h.output, h.size, fun k hk => h.block k (by omega) (fun e => by injection e with e; omega)⟩
theorem grown_blk {w w1 : World} {g k : Nat} {o : Obj} (h : w.grownBy w1 (some g)) (hb : w.heap[k]? = some o) (hne : k ≠ g) : w1.heap[k]? = some o := by
 have hk : k < w.heap.size := by
  rcases Nat.lt_or_ge k w.heap.size with h1 | h1
  ·exact h1
  ·rw [Array.getElem?_eq_none h1] at hb; cases hb
 rw [h.block k hk (fun e => hne (by injection e))]; exact hb
/-- What 'do' keeps of the rest: the posts' blocks, but its own. -/
def Keep29 (b : Nat) (W : World) (gO : Nat) (w' : World) : Prop := W.heap.size ≤ w'.heap.size ∧ ∀ g, b ≤ g → g < W.heap.size → (∃ cs, W.heap[g]? = some (.cells cs 29 (0, 0))) → g ≠ gO → w'.heap[g]? = W.heap[g]?
theorem keep29_refl (b : Nat) (W : World) (gO : Nat) : Keep29 b W gO W := ⟨Nat.le_refl _, fun _ _ _ _ _ => rfl⟩
theorem keep29_below {b : Nat} {W : World} {gO : Nat} {w1 w2 : World} (h : Keep29 b W gO w1) (hb : Below w1.heap.size w1 w2) : Keep29 b W gO w2 := ⟨Nat.le_trans h.1 hb.size, fun g h1 h2 h3 h4 => (hb.block g (Nat.lt_of_lt_of_le h2 h.1)).trans (h.2 g h1 h2 h3 h4)⟩
theorem keep29_grown {b : Nat} {W : World} {gO : Nat} {w1 w2 : World} {row : Option Nat} (h : Keep29 b W gO w1) (hg : w1.grownBy w2 row) (hne : ∀ g cs, w1.heap[g]? = some (.cells cs 29 (0, 0)) → some g ≠ row) : Keep29 b W gO w2 :=
 ⟨Nat.le_trans h.1 hg.size, fun g h1 h2 h3 h4 => by
  have hw := h.2 g h1 h2 h3 h4
  obtain ⟨cs, hcs⟩ := h3
  exact (hg.block g (Nat.lt_of_lt_of_le h2 h.1) (hne g cs (hw.trans hcs))).trans hw⟩
theorem keep29_set {b : Nat} {W : World} {gO : Nat} {w1 : World} {p : Addr} (u : Value) (h : Keep29 b W gO w1) (hne : ∀ g cs, w1.heap[g]? = some (.cells cs 29 (0, 0)) → g ≠ p.block) : Keep29 b W gO (w1.setCell p u) :=
 ⟨by rw [size_set]; exact h.1, fun g h1 h2 h3 h4 => by
  have hw := h.2 g h1 h2 h3 h4
  obtain ⟨cs, hcs⟩ := h3
  exact (Below.heap_setCell w1 p u g (hne g cs (hw.trans hcs))).trans hw⟩
theorem keep29_kept {b base : Nat} {W : World} {gO : Nat} {w1 w2 : World} (h : Keep29 b W gO w1) (hk : Kept w1 w2 (fun k => base ≤ k ∧ ∀ cs, w1.heap[k]? ≠ some (.cells cs 29 (0, 0)))) : Keep29 b W gO w2 :=
 ⟨Nat.le_trans h.1 hk.1, fun g h1 h2 h3 h4 => by
  have hw := h.2 g h1 h2 h3 h4
  obtain ⟨cs, hcs⟩ := h3
  exact (Kept29 hk g (Nat.lt_of_lt_of_le h2 h.1) ⟨cs, hw.trans hcs⟩).trans hw⟩
/-- What is kept of the rest when 'do' has been called: all but 'many'. -/
def StM (w : World) (gm : Nat) (has : Int → Bool) (np : Nat) (b : Bool) (bs : List S58) (W : World) : Prop := w.grownBy W (some gm) ∧ ∃ m : Nat, W.heap[gm]? = some (.cells #[.int .i64 m] 2 (0, 0)) ∧ (b = true → m = np * cntA has bs)
theorem StM0 {w : World} {gm : Nat} {has : Int → Bool} {np : Nat} (hm : w.heap[gm]? = some (.cells #[.int .i64 0] 2 (0, 0))) (W : World) (h : Below w.heap.size w W) : StM w gm has np false [] W :=
 ⟨grown_trans (grown_refl _ _) h, 0, blk_bel hm h, fun h => absurd h (by decide)⟩
theorem StMn {w : World} {gm : Nat} {has : Int → Bool} {np : Nat} (b : Bool) (bs : List S58) (W : World) (h : StM w gm has np b bs W) : StM w gm has np false [] W :=
 ⟨h.1, h.2.elim fun m hm => ⟨m, hm.1, fun h => absurd h (by decide)⟩⟩
theorem StM1 {w : World} {gm : Nat} {has : Int → Bool} {np : Nat} (b : Bool) (bs : List S58) (W W' : World) (h : StM w gm has np b bs W) (_ : w.heap.size ≤ W.heap.size) (hb : Below W.heap.size W W') : StM w gm has np b bs W' :=
 ⟨grown_trans h.1 hb, h.2.elim fun m hm => ⟨m, blk_bel hm.1 hb, hm.2⟩⟩
theorem StM2 {w : World} {gm : Nat} {has : Int → Bool} {np : Nat} (hgm : gm < w.heap.size) (b : Bool) (bs : List S58) (W : World) (g j : Nat) (u : Value) (h : StM w gm has np b bs W) (hg : w.heap.size ≤ g) : StM w gm has np b bs (W.setCell ⟨g, j, none⟩ u) :=
 ⟨grown_put h.1 (.inr hg) u, h.2.elim fun m hm => ⟨m, (Below.heap_setCell W ⟨g, j, none⟩ u gm (fun e => by have : gm = g := e; omega)).trans hm.1, hm.2⟩⟩
def guardS (k : Nat) (ms : List Int) (ps : List S60) (lim : Int) (bs : List S58) : Prop := (1 ≤ lim ∧ lim ≤ 64) ∧ ps.length ≤ 64 ∧ bs.length ≤ 32 ∧ (∀ b ∈ bs, b.f3.length ≤ 64) ∧ ∀ b ∈ bs, slices_Contains_int64_int64.f k ms b.f1 = some (hasI ms b.f1)
instance (k : Nat) (ms : List Int) (ps : List S60) (lim : Int) (bs : List S58) : Decidable (guardS k ms ps lim bs) := by unfold guardS; infer_instance
/-- What the closure of SendAll makes of a post. -/
def doSA (k : Nat) (ms : List Int) (ps : List S60) (lim : Int) (bs : List S58) : Option (Bool × Int × List S58) :=
 (impl_IsMembers.f k ms).bind fun t1 => if t1 = true then ((impl_parcelsOk.f k ps).bind fun t2 => if t2 = true then (if guardS k ms ps lim bs then some (true, lim, sentJ lim.toNat (hasI ms) ps bs ps.length) else none) else some (false, lim, bs)) else some (false, lim, bs)
set_option maxHeartbeats 16000000 in
set_option maxRecDepth 100000 in
theorem sa_do (k : Nat) (ms : List Int) (A1 : Option Addr) (c1 : Nat) (hmc : ms.length ≤ c1) (ps : List S60) (A2 : Option Addr) (c2 : Nat) (hpc : ps.length ≤ c2) (gM gP gm b0 : Nat) (w : World)
  (hM : w.heap[gM]? = some (.cells #[.slice A1 ms.length c1] 38 (0, 0))) (hP : w.heap[gP]? = some (.cells #[.slice A2 ps.length c2] 52 (0, 0))) (hm : w.heap[gm]? = some (.cells #[.int .i64 0] 2 (0, 0))) (hb0 : b0 ≤ gm)
  (hCM : ∀ W, Below b0 w W → Kd.C (Kd.int .i64) W A1 ms.length ms) (hCP : ∀ W, Below b0 w W → Kd.C k60 W A2 ps.length ps) :
  DoAt 82 #[.pointer (some ⟨gM, 0, none⟩), .pointer (some ⟨gP, 0, none⟩), .pointer (some ⟨gm, 0, none⟩)] (doSA k ms ps) (StM w gm (hasI ms) ps.length) w := by
 intro W gO lim v bs r hW hgO hk hs hd
 unfold doSA at hd
 obtain ⟨t1, h1, hd⟩ := Option.bind_eq_some_iff.mp hd
 obtain ⟨Av, cv, ev⟩ := Kd.S_slice hs
 subst ev
 have hgm := blk_lt hm
 have IS := Aside0.mk h1
 have GR := Aside0.mk (grown_trans (grown_refl w (some gm)) hW)
 have BW := Aside0.mk hW
 have MM := Aside0.mk hM
 have PP := Aside0.mk hP
 have MY := Aside0.mk hm
 have CM := Aside0.mk hCM
 have CP := Aside0.mk hCP
 have K := Aside0.mk hk
 have SS := Aside0.mk hs
 have hbw : ∀ W', w.grownBy W' (some gm) → Below b0 w W' := fun _ h => grown_below h hb0 hgm
 have LOW := Aside0.mk hbw
 have hcM : W.cell? ⟨gM, 0, none⟩ = some (.slice A1 ms.length c1) := (blk_cell (blk_bel hM hW) 0).trans rfl
 have NMm : gM ≠ gm := blk_ne hM hm (by decide)
 have NPm : gP ≠ gm := blk_ne hP hm (by decide)
 clear hW h1 hk hs hM hP hm hCM hCP hbw
 show Calls Try.prog 82 #[.pointer (some ⟨gO, 0, none⟩), .pointer (some ⟨gM, 0, none⟩), .pointer (some ⟨gP, 0, none⟩), .pointer (some ⟨gm, 0, none⟩)] W _
 cases t1 with
 | false =>
  rw [if_neg (by simp)] at hd
  injection hd with hd
  subst hd
  go_enter Try.func82, Try.ntmps82
  go_wp2_with (go_at_call 83; refine (impl_IsMembers.calls k A1 c1 ms false W (CM.out _ (LOW.out _ GR.out)) hmc IS.out).mono ?_; rintro e w1 ⟨rfl, hb1⟩; have HB1 := Aside0.mk hb1.below; clear hb1)
  go_ret
  exact ⟨rfl, _, blk_bel K.out HB1.out, Kd.S_below SS.out HB1.out, ⟨grown_trans GR.out HB1.out, 0, blk_bel (blk_bel MY.out BW.out) HB1.out, fun h => absurd h (by decide)⟩, (keep29_below (keep29_refl w.heap.size W gO) HB1.out).1, (keep29_below (keep29_refl w.heap.size W gO) HB1.out).2⟩
 | true =>
  rw [if_pos rfl] at hd
  obtain ⟨t2, h2, hd⟩ := Option.bind_eq_some_iff.mp hd
  have OK2 := Aside0.mk h2
  clear h2
  cases t2 with
  | false =>
   rw [if_neg (by simp)] at hd
   injection hd with hd
   subst hd
   go_enter Try.func82, Try.ntmps82
   go_wp2_with (first | (go_at_call 83; refine (impl_IsMembers.calls k A1 c1 ms true W (CM.out _ (LOW.out _ GR.out)) hmc IS.out).mono ?_; clear hcM; rintro e w1 ⟨rfl, hb1⟩; have HB1 := Aside0.mk hb1.below; clear hb1; have hcP : w1.cell? ⟨gP, 0, none⟩ = some (.slice A2 ps.length c2) := (blk_cell (blk_bel (blk_bel PP.out BW.out) HB1.out) 0).trans rfl) | (go_at_call 73; refine (impl_parcelsOk.calls k A2 c2 ps false w1 (CP.out _ (LOW.out _ (grown_trans GR.out HB1.out))) hpc OK2.out).mono ?_; clear hcP; rintro e w2 ⟨rfl, hb2⟩; have HB2 := Aside0.mk (HB1.out.trans (hb2.mono HB1.out.size)); clear hb2))
   go_ret
   exact ⟨rfl, _, blk_bel K.out HB2.out, Kd.S_below SS.out HB2.out, ⟨grown_trans GR.out HB2.out, 0, blk_bel (blk_bel MY.out BW.out) HB2.out, fun h => absurd h (by decide)⟩, (keep29_below (keep29_refl w.heap.size W gO) HB2.out).1, (keep29_below (keep29_refl w.heap.size W gO) HB2.out).2⟩
  | true =>
   rw [if_pos rfl] at hd
   by_cases hg : guardS k ms ps lim bs
   case neg => rw [if_neg hg] at hd; cases hd
   rw [if_pos hg] at hd
   injection hd with hd
   subst hd
   unfold guardS at hg
   obtain ⟨hl, hpl, hbl, hf3, hhas⟩ := hg
   obtain ⟨n, rfl⟩ : ∃ n : Nat, lim = (n : Int) := ⟨lim.toNat, by omega⟩
   simp only [Int.toNat_natCast]
   have hn64 : n ≤ 64 := by omega
   have F3 := Aside0.mk hf3
   have HAS := Aside0.mk hhas
   clear hf3 hhas hl
   go_enter Try.func82, Try.ntmps82
   go_wp2_with (first | (go_at_call 83; refine (impl_IsMembers.calls k A1 c1 ms true W (CM.out _ (LOW.out _ GR.out)) hmc IS.out).mono ?_; clear hcM; rintro e w1 ⟨rfl, hb1⟩; have HB1 := Aside0.mk hb1.below; clear hb1; have hcP : w1.cell? ⟨gP, 0, none⟩ = some (.slice A2 ps.length c2) := (blk_cell (blk_bel (blk_bel PP.out BW.out) HB1.out) 0).trans rfl) | (go_at_call 73; refine (impl_parcelsOk.calls k A2 c2 ps true w1 (CP.out _ (LOW.out _ (grown_trans GR.out HB1.out))) hpc OK2.out).mono ?_; clear hcP; rintro e w2 ⟨rfl, hb2⟩; have HB2 := Aside0.mk (HB1.out.trans (hb2.mono HB1.out.size)); clear hb2; have hcP2 : w2.cell? ⟨gP, 0, none⟩ = some (.slice A2 ps.length c2) := (blk_cell (blk_bel (blk_bel PP.out BW.out) HB2.out) 0).trans rfl))
   obtain ⟨c, hc⟩ : ∃ c, c = cntA (hasI ms) bs := ⟨_, rfl⟩
   have hc32 : c ≤ 32 := by rw [hc]; exact Nat.le_trans (cntA_le _ _) hbl
   have HC := Aside0.mk hc
   have K0 := Aside0.mk (blk_bel K.out HB2.out)
   have S0 : Aside0 (Kd.S k58 58 w2 w.heap.size (fun _ => True) (.slice Av bs.length cv) (sentJ n (hasI ms) ps bs 0)) := ⟨Kd.S_below SS.out HB2.out⟩
   have G0 := Aside0.mk (grown_trans GR.out HB2.out)
   have M0 : Aside0 (w2.heap[gm]? = some (.cells #[.int .i64 ((0 : Nat) : Int)] 2 (0, 0))) := ⟨blk_bel (blk_bel MY.out BW.out) HB2.out⟩
   have Z0 := Aside0.mk (keep29_below (keep29_refl w.heap.size W gO) HB2.out)
   have PW := Aside0.mk (blk_bel PP.out BW.out)
   clear hc hd hcP2 GR SS K OK2 IS
   go_loopg [7, 18] ps.length (fun gg _ s18 wr => ∃ j m : Nat, j ≤ ps.length ∧ ps.length - j ≤ gg ∧ s18 = .int .i64 j ∧ Aside0 (m = j * c) ∧ Aside0 (wr.heap[gO]? = some (.cells #[.int .i64 n, .slice Av bs.length cv] 29 (0, 0))) ∧ Aside0 (Kd.S k58 58 wr w.heap.size (fun _ => True) (.slice Av bs.length cv) (sentJ n (hasI ms) ps bs j)) ∧ Aside0 (w.grownBy wr (some gm)) ∧ Aside0 (wr.heap[gm]? = some (.cells #[.int .i64 m] 2 (0, 0))) ∧ Aside0 (Keep29 w.heap.size W gO wr))
   case atStart => exact ⟨0, 0, Nat.zero_le _, by omega, rfl, ⟨by simp⟩, K0, S0, G0, M0, Z0⟩
   case round =>
    clear K0 S0 G0 M0 Z0 HB2 HB1
    obtain ⟨j, m, hj, hgg, rfl, HMJ, HK, HS, HG, HM, HZ⟩ := hrel
    by_cases hlt : j < ps.length
    ·have hltz : (j : Int) < (ps.length : Int) := by omega
     have hm2 : m ≤ 64 * 32 := by rw [HMJ.out]; exact Nat.mul_le_mul (by omega) hc32
     have hwc : wrap64 ((m : Int) + (c : Int)) = (m : Int) + (c : Int) := by unfold wrap64; omega
     have hmj : m + c = (j + 1) * c := by rw [HMJ.out, Nat.add_mul, Nat.one_mul]
     have HMJ2 := Aside0.mk hmj
     have HIW : Aside0 (IntKind.i64.wrap ((m : Int) + (c : Int)) = ((m + c : Nat) : Int)) := ⟨by rw [i64_w, hwc, Int.natCast_add]⟩
     obtain ⟨ad, eA, hp0, hp1⟩ := at_T60 (CP.out wr (LOW.out _ HG.out)) (j : Int) (by omega) hltz
     subst eA
     have hpj : rd_T60 ps (j : Int) = ps[j] := by simp [rd_T60, hlt]
     rw [hpj] at hp0 hp1
     rw [Int.toNat_natCast] at hp0 hp1
     obtain ⟨p, hp⟩ : ∃ p, p = ps[j] := ⟨_, rfl⟩
     rw [← hp] at hp0 hp1
     have HPJ := Aside0.mk hp
     have hmM : wr.cell? ⟨gm, 0, none⟩ = some (.int .i64 m) := (blk_cell HM.out 0).trans rfl
     have hmf := blk_frozen HM.out 0
     have hMb := grown_blk HG.out MM.out NMm
     have hxM : wr.cell? ⟨gM, 0, none⟩ = some (.slice A1 ms.length c1) := (blk_cell hMb 0).trans rfl
     have W0b := Aside0.mk ((Below.refl w.heap.size wr).alloc HG.out.size (.cells #[.int .i64 p.f0, .int .i64 p.f1] 60)).drew
     have ZW := Aside0.mk (below_drew ((Below.refl wr.heap.size wr).alloc (Nat.le_refl _) (.cells #[.int .i64 p.f0, .int .i64 p.f1] 60)))
     have SW := Aside0.mk (S_no29 (Kd.S_drew (Kd.S_alloc HS.out (.cells #[.int .i64 p.f0, .int .i64 p.f1] 60))))
     have KW : Aside0 ((wr.alloc (.cells #[.int .i64 p.f0, .int .i64 p.f1] 60)).drew.heap[gO]? = some (.cells #[.int .i64 n, .slice Av bs.length cv] 29 (0, 0))) := ⟨blk_alloc HK.out (.cells #[.int .i64 p.f0, .int .i64 p.f1] 60)⟩
     have MW : Aside0 ((wr.alloc (.cells #[.int .i64 p.f0, .int .i64 p.f1] 60)).drew.heap[gm]? = some (.cells #[.int .i64 m] 2 (0, 0))) := ⟨blk_alloc HM.out (.cells #[.int .i64 p.f0, .int .i64 p.f1] 60)⟩
     have MbW : Aside0 ((wr.alloc (.cells #[.int .i64 p.f0, .int .i64 p.f1] 60)).drew.heap[gM]? = some (.cells #[.slice A1 ms.length c1] 38 (0, 0))) := ⟨blk_alloc hMb (.cells #[.int .i64 p.f0, .int .i64 p.f1] 60)⟩
     have SC := send_calls k n (by omega) (hasI ms) ms A1 c1 hmc p (sentJ n (hasI ms) ps bs j) (fun b hb => Nat.le_trans (sentJ_f3 n (hasI ms) ps bs j hn64 F3.out b hb) (by decide)) (by rw [sentJ_len]; omega)
      (sentJ_all n (hasI ms) ps bs j (fun x => slices_Contains_int64_int64.f k ms x = some (hasI ms x)) HAS.out) (W := (wr.alloc (.cells #[.int .i64 p.f0, .int .i64 p.f1] 60)).drew) (base := w.heap.size) (gO := gO) (Nat.le_trans HG.out.size W0b.out.size)
      (fun W' hb => CM.out W' (LOW.out _ (grown_low HG.out (W0b.out.trans hb)))) KW.out SW.out (fun k h => ⟨Nat.le_trans (Nat.le_trans HG.out.size W0b.out.size) h, fun cs e => by rw [Array.getElem?_eq_none h] at e; cases e⟩) (fun h => h.2 _ KW.out)
     rw [cntB_all, sentJ_cnt, ← HC.out] at SC
     have SCA := Aside0.mk SC
     have NOm : gO ≠ gm := by omega
     clear SC hpj hp hMb hmj
     have T7 := Aside0.mk (heap_alloc_new wr (.cells #[.int .i64 p.f0, .int .i64 p.f1] 60))
     go_wp2_with fail
     obtain ⟨W1, hW1⟩ : ∃ W1, W1 = wr.alloc (.cells #[.int .i64 p.f0, .int .i64 p.f1] 60) := ⟨_, rfl⟩
     rw [← hW1] at W0b ZW SW KW MW MbW SCA T7 ⊢
     have hmM1 : W1.cell? ⟨gm, 0, none⟩ = some (.int .i64 m) := (blk_cell (show W1.heap[gm]? = _ from MW.out) 0).trans rfl
     have hmf1 := blk_frozen (show W1.heap[gm]? = _ from MW.out) 0
     have hxM1 : W1.cell? ⟨gM, 0, none⟩ = some (.slice A1 ms.length c1) := (blk_cell (show W1.heap[gM]? = _ from MbW.out) 0).trans rfl
     have ht0 : W1.cell? ⟨wr.heap.size, 0, none⟩ = some (.int .i64 p.f0) := (blk_cell T7.out 0).trans rfl
     have ht1 : W1.cell? ⟨wr.heap.size, 1, none⟩ = some (.int .i64 p.f1) := (blk_cell T7.out 1).trans rfl
     clear hp0 hp1 hmM hmf hxM hW1
     go_region_with (first | (go_at_call 84; refine SCA.out.mono ?_; rintro e w5 ⟨rfl, hs5, hb5, hk5⟩; have S5 := Aside0.mk hs5; have B5 := Aside0.mk hb5; have K5 := Aside0.mk hk5; have M5 := Aside0.mk ((hb5.block gm hgm).trans MW.out); have hm5 : w5.cell? ⟨gm, 0, none⟩ = some (.int .i64 m) := (blk_cell M5.out 0).trans rfl; have hf5 := blk_frozen M5.out 0; clear hs5 hb5 hk5))
     all_goals
      rw [HIW.out]
      have W5b := Aside0.mk (W0b.out.trans B5.out)
      have HS6 := Aside0.mk (Kd.S_mono (Kd.S_far (p := ⟨gm, 0, none⟩) S5.out (fun k h => by have := h.1; show k ≠ gm; omega) (.int .i64 ((m + c : Nat) : Int))) (ok' := fun _ => True) (fun _ _ => trivial))
      have HK6 : Aside0 ((w5.setCell ⟨gm, 0, none⟩ (.int .i64 ((m + c : Nat) : Int))).heap[gO]? = some (.cells #[.int .i64 n, .slice Av bs.length cv] 29 (0, 0))) := ⟨(Below.heap_setCell _ _ _ _ NOm).trans (blk_kept KW.out K5.out (fun h => h.2 _ KW.out))⟩
      have HG6 := Aside0.mk (grown_put (g := gm) (j := 0) (grown_low HG.out W5b.out) (.inl rfl) (.int .i64 ((m + c : Nat) : Int)))
      have HM6 : Aside0 ((w5.setCell ⟨gm, 0, none⟩ (.int .i64 ((m + c : Nat) : Int))).heap[gm]? = some (.cells #[.int .i64 ((m + c : Nat) : Int)] 2 (0, 0))) := ⟨blk_put M5.out 0 _ rfl⟩
      have HZ6 := Aside0.mk (keep29_set (p := ⟨gm, 0, none⟩) (.int .i64 ((m + c : Nat) : Int)) (keep29_kept (keep29_below HZ.out ZW.out) K5.out) (fun g cs hg => blk_ne hg M5.out (by decide)))
      rw [HPJ.out, ← sentJ_succ n (hasI ms) ps bs j hlt] at HS6
      clear S5 B5 K5 M5 hm5 hf5 SCA SW KW MW MbW T7 HS HK HG HM HZ W5b W0b ZW hmM1 hmf1 hxM1 ht0 ht1
      go_wp2
      go_roundg (ps.length - (j + 1))
      all_goals (first | omega | exact ⟨j + 1, m + c, by omega, by omega, by simp, HMJ2, HK6, HS6, HG6, HM6, HZ6⟩)
    ·have hieq : j = ps.length := by omega
     subst hieq
     go_wp2
     go_ret
     have HMf := HM
     rw [HMJ.out] at HMf
     exact ⟨rfl, _, HK.out, HS.out, ⟨HG.out, ps.length * c, HMf.out, fun _ => by rw [sentJ_cnt, ← HC.out]⟩, HZ.out.1, HZ.out.2⟩
theorem changedF2_mono {d d' : Int → List S58 → Option (Bool × Int × List S58)} (hd : ∀ lim bs, LeO (d lim bs) (d' lim bs)) (k : Nat) (lim : Int) (bs : List S58) : LeO (changedF k d lim bs) (changedF (k + 1) d' lim bs) := by
 unfold changedF
 exact LeO.bind (impl_ValidPost.mono _ _ _) fun t1 => LeO.ite (LeO.bind (impl_clonePost.mono _ _ _) fun t2 => LeO.bind (hd _ _) fun t3 => LeO.ite (LeO.bind (impl_ValidPost.mono _ _ _) fun t4 => LeO.refl _) (LeO.refl _)) (LeO.refl _)
theorem guardS_mono {k : Nat} {ms : List Int} {ps : List S60} {lim : Int} {bs : List S58} (h : guardS k ms ps lim bs) : guardS (k + 1) ms ps lim bs :=
 ⟨h.1, h.2.1, h.2.2.1, h.2.2.2.1, fun b hb => slices_Contains_int64_int64.mono _ _ _ _ (h.2.2.2.2 b hb)⟩
theorem doSA_mono (ms : List Int) (ps : List S60) (k : Nat) (lim : Int) (bs : List S58) : LeO (doSA k ms ps lim bs) (doSA (k + 1) ms ps lim bs) := by
 unfold doSA
 refine LeO.bind (impl_IsMembers.mono _ _) fun t1 => LeO.ite (LeO.bind (impl_parcelsOk.mono _ _) fun t2 => LeO.ite ?_ (LeO.refl _)) (LeO.refl _)
 intro r hr
 by_cases h : guardS k ms ps lim bs
 ·rw [if_pos h] at hr; rw [if_pos (guardS_mono h)]; exact hr
 ·rw [if_neg h] at hr; cases hr
def outSA (np : Nat) (has : Int → Bool) (r : Int × List S58 × Bool) : Int × List S58 × Int × Bool := if r.2.2 = true then (r.1, r.2.1, ((np * cntA has r.2.1 : Nat) : Int), true) else (0, [], 0, false)
def impl_SendAll.f (k : Nat) (a0 : Int) (l0 : List S58) (ms : List Int) (ps : List S60) : Option (Int × List S58 × Int × Bool) := (changedF k (doSA k ms ps) a0 l0).bind fun r => some (outSA ps.length (hasI ms) r)
theorem impl_SendAll.mono : ∀ a0 a1 a2 a3 k, LeO (impl_SendAll.f k a0 a1 a2 a3) (impl_SendAll.f (k + 1) a0 a1 a2 a3) := fun _ _ ms ps k => LeO.bind (changedF2_mono (fun lim bs => doSA_mono ms ps k lim bs) k _ _) fun _ => LeO.refl _
theorem changedF_false {k : Nat} {d : Int → List S58 → Option (Bool × Int × List S58)} {lim : Int} {bs : List S58} {r1 : Int} {r2 : List S58} (h : changedF k d lim bs = some (r1, r2, false)) : r1 = 0 ∧ r2 = [] := by
 unfold changedF at h
 obtain ⟨t1, _, h⟩ := Option.bind_eq_some_iff.mp h
 cases t1 with
 | false => simp at h; exact ⟨h.1.symm, h.2⟩
 | true =>
  rw [if_pos rfl] at h
  obtain ⟨t2, _, h⟩ := Option.bind_eq_some_iff.mp h
  obtain ⟨⟨b, l, q⟩, _, h⟩ := Option.bind_eq_some_iff.mp h
  cases b with
  | false => simp at h; exact ⟨h.1.symm, h.2⟩
  | true =>
   rw [if_pos rfl] at h
   obtain ⟨t4, _, h⟩ := Option.bind_eq_some_iff.mp h
   cases t4 <;> simp at h
   exact ⟨h.1.symm, h.2⟩
theorem sa_call (k : Nat) (a0 : Int) (A0 : Option Addr) (c0 : Nat) (l0 : List S58) (A1 : Option Addr) (c1 : Nat) (l1 : List Int) (A2 : Option Addr) (c2 : Nat) (l2 : List S60) (q1 : Int) (q2 : List S58) (q3 : Bool) (w : World) (hr0 : Kd.C k58 w A0 l0.length l0) (hc0 : l0.length ≤ c0) (hr1 : Kd.C (Kd.int .i64) w A1 l1.length l1) (hc1 : l1.length ≤ c1) (hr2 : Kd.C k60 w A2 l2.length l2) (hc2 : l2.length ≤ c2) (h : changedF k (doSA k l1 l2) a0 l0 = some (q1, q2, q3))
  (WA : World) (hWA : WA = ((((w.alloc (.cells #[.int .i64 a0, .slice A0 l0.length c0] 29)).alloc (.cells #[.slice A1 l1.length c1] 38)).alloc (.cells #[.slice A2 l2.length c2] 52)).alloc (.cells #[.int .i64 0, .slice none 0 0] 29)).alloc (.cells #[.int .i64 0] 2)) :
  WA.heap.size = w.heap.size + 5 ∧ Below w.heap.size w WA ∧ WA.heap[w.heap.size + 1 + 1 + 1]? = some (.cells #[.int .i64 0, .slice none 0 0] 29 (0, 0)) ∧
  Calls Try.prog 81 #[.agg #[.int .i64 a0, .slice A0 l0.length c0], .func (.func 82) #[] #[.pointer (some ⟨w.heap.size + 1, 0, none⟩), .pointer (some ⟨w.heap.size + 1 + 1, 0, none⟩), .pointer (some ⟨w.heap.size + 1 + 1 + 1 + 1, 0, none⟩)]] WA
   fun e w' => ∃ v1_ : Value, e = .returned (.tuple #[.agg #[.int .i64 q1, v1_], .bool q3]) ∧ Kd.S k58 58 w' WA.heap.size (fun _ => True) v1_ q2 ∧ StM WA (w.heap.size + 1 + 1 + 1 + 1) (hasI l1) l2.length q3 q2 w' ∧ WA.heap.size ≤ w'.heap.size := by
 have eg := enters_of (P := Try.prog) Try.func82 (by kernel_rfl) rfl
 obtain ⟨W1, h1⟩ : ∃ W1, W1 = w.alloc (.cells #[.int .i64 a0, .slice A0 l0.length c0] 29) := ⟨_, rfl⟩
 obtain ⟨W2, h2⟩ : ∃ W2, W2 = W1.alloc (.cells #[.slice A1 l1.length c1] 38) := ⟨_, rfl⟩
 obtain ⟨W3, h3⟩ : ∃ W3, W3 = W2.alloc (.cells #[.slice A2 l2.length c2] 52) := ⟨_, rfl⟩
 obtain ⟨W4, h4⟩ : ∃ W4, W4 = W3.alloc (.cells #[.int .i64 0, .slice none 0 0] 29) := ⟨_, rfl⟩
 rw [← h1, ← h2, ← h3, ← h4] at hWA
 have z1 : W1.heap.size = w.heap.size + 1 := by rw [h1]; simp
 have z2 : W2.heap.size = w.heap.size + 1 + 1 := by rw [h2]; simp [z1]
 have z3 : W3.heap.size = w.heap.size + 1 + 1 + 1 := by rw [h3]; simp [z2]
 have z4 : W4.heap.size = w.heap.size + 1 + 1 + 1 + 1 := by rw [h4]; simp [z3]
 have z5 : WA.heap.size = w.heap.size + 1 + 1 + 1 + 1 + 1 := by rw [hWA]; simp [z4]
 have B1 : Below w.heap.size w W1 := by rw [h1]; exact below_alloc (Below.refl _ _) _
 have B2 : Below w.heap.size w W2 := by rw [h2]; exact below_alloc B1 _
 have B3 : Below w.heap.size w W3 := by rw [h3]; exact below_alloc B2 _
 have B4 : Below w.heap.size w W4 := by rw [h4]; exact below_alloc B3 _
 have B5 : Below w.heap.size w WA := by rw [hWA]; exact below_alloc B4 _
 have bM2 : W2.heap[w.heap.size + 1]? = some (.cells #[.slice A1 l1.length c1] 38 (0, 0)) := by rw [h2, ← z1]; exact heap_alloc_new W1 _
 have bP3 : W3.heap[w.heap.size + 1 + 1]? = some (.cells #[.slice A2 l2.length c2] 52 (0, 0)) := by rw [h3, ← z2]; exact heap_alloc_new W2 _
 have bR4 : W4.heap[w.heap.size + 1 + 1 + 1]? = some (.cells #[.int .i64 0, .slice none 0 0] 29 (0, 0)) := by rw [h4, ← z3]; exact heap_alloc_new W3 _
 have bm5 : WA.heap[w.heap.size + 1 + 1 + 1 + 1]? = some (.cells #[.int .i64 0] 2 (0, 0)) := by rw [hWA, ← z4]; exact heap_alloc_new W4 _
 have bM5 : WA.heap[w.heap.size + 1]? = some (.cells #[.slice A1 l1.length c1] 38 (0, 0)) := by rw [hWA]; refine blk_alloc ?_ _; rw [h4]; refine blk_alloc ?_ _; rw [h3]; exact blk_alloc bM2 _
 have bP5 : WA.heap[w.heap.size + 1 + 1]? = some (.cells #[.slice A2 l2.length c2] 52 (0, 0)) := by rw [hWA]; refine blk_alloc ?_ _; rw [h4]; exact blk_alloc bP3 _
 have bR5 : WA.heap[w.heap.size + 1 + 1 + 1]? = some (.cells #[.int .i64 0, .slice none 0 0] 29 (0, 0)) := by rw [hWA]; exact blk_alloc bR4 _
 clear h1 h2 h3 h4 hWA
 refine ⟨z5, B5, bR5, ?_⟩
 exact changedPost_calls k 82 _ eg (doSA k l1 l2) (StM WA (w.heap.size + 1 + 1 + 1 + 1) (hasI l1) l2.length) WA (StM0 bm5) StMn StM1 (StM2 (by omega))
  (sa_do k l1 A1 c1 hc1 l2 A2 c2 hc2 _ _ _ w.heap.size WA bM5 bP5 bm5 (by omega) (fun W hb => Kd.C_below hr1 (B5.trans hb)) (fun W hb => Kd.C_below hr2 (B5.trans hb))) a0 A0 c0 l0 q1 q2 q3 (Kd.C_below hr0 B5) hc0 h
set_option maxHeartbeats 8000000 in
set_option maxRecDepth 100000 in
theorem impl_SendAll.calls (k : Nat) (a0 : Int) (A0 : Option Addr) (c0 : Nat) (l0 : List S58) (A1 : Option Addr) (c1 : Nat) (l1 : List Int) (A2 : Option Addr) (c2 : Nat) (l2 : List S60) (r1 : Int) (r2 : List S58) (r3 : Int) (r4 : Bool) (w : World) (hr0 : Kd.C k58 w A0 l0.length l0) (hc0 : l0.length ≤ c0) (hr1 : Kd.C (Kd.int .i64) w A1 l1.length l1) (hc1 : l1.length ≤ c1) (hr2 : Kd.C k60 w A2 l2.length l2) (hc2 : l2.length ≤ c2) (h : impl_SendAll.f k a0 l0 l1 l2 = some (r1, r2, r3, r4)) :
  Calls Try.prog 40 #[.agg #[.int .i64 a0, .slice A0 l0.length c0], .slice A1 l1.length c1, .slice A2 l2.length c2] w fun e w' => ∃ v1_ : Value, e = .returned (.tuple #[.agg #[.int .i64 r1, v1_], .int .i64 r3, .bool r4]) ∧ Kd.S k58 58 w' w.heap.size (fun _ => True) v1_ r2 ∧ Below w.heap.size w w' := by
 have HR0 := Aside0.mk hr0
 have HC0 := Aside0.mk hc0
 have HR1 := Aside0.mk hr1
 have HC1 := Aside0.mk hc1
 have HR2 := Aside0.mk hr2
 have HC2 := Aside0.mk hc2
 obtain ⟨⟨q1, q2, q3⟩, hq, ho⟩ := Option.bind_eq_some_iff.mp h
 injection ho with ho
 have HO := Aside0.mk ho
 have CC := Aside0.mk (sa_call k a0 A0 c0 l0 A1 c1 l1 A2 c2 l2 q1 q2 q3 w hr0 hc0 hr1 hc1 hr2 hc2 hq _ rfl)
 have HQ := Aside0.mk hq
 clear hr0 hc0 hr1 hc1 hr2 hc2 h ho hq
 go_enter Try.func40, Try.ntmps40
 cases q3 with
 | false =>
  obtain ⟨rfl, rfl⟩ := changedF_false HQ.out
  have HOO := HO.out
  simp only [outSA, Bool.false_eq_true, if_false, Prod.mk.injEq] at HOO
  obtain ⟨rfl, rfl, rfl, rfl⟩ := HOO
  clear HO HQ
  go_wp2_with (go_at_call 81; refine CC.out.2.2.2.mono ?_; rintro e w5 ⟨v1_, rfl, hs5, hst5, hz5⟩; obtain ⟨Av, cv, ev⟩ := Kd.S_slice hs5; subst ev; have SZ := Aside0.mk CC.out.1; have BA := Aside0.mk CC.out.2.1; have ST5 := Aside0.mk hst5; have b35 := Aside0.mk (grown_blk hst5.1 CC.out.2.2.1 (by omega)); clear CC hs5 hst5 hz5; have b36 := Aside0.mk (blk_alloc b35.out (.cells #[.int .i64 0, .slice Av 0 cv] 29)); have hz0 : (w5.alloc (.cells #[.int .i64 0, .slice Av 0 cv] 29)).cell? ⟨w.heap.size + 1 + 1 + 1, 0, none⟩ = some (.int .i64 0) := (blk_cell b36.out 0).trans rfl; have hz1 : (w5.alloc (.cells #[.int .i64 0, .slice Av 0 cv] 29)).cell? ⟨w.heap.size + 1 + 1 + 1, 1, none⟩ = some (.slice none 0 0) := (blk_cell b36.out 1).trans rfl; have hf0 := blk_frozen b36.out 0; have hf1 := blk_frozen b36.out 1)
  have B6 := Aside0.mk ((BA.out.trans ((grown_below (base := w.heap.size) ST5.out.1 (by omega) (by rw [SZ.out]; omega)).mono (Nat.le_refl _))).alloc (Nat.le_trans BA.out.size ST5.out.1.size) (.cells #[.int .i64 0, .slice Av 0 cv] 29))
  refine bodyPost_ret (results_ctt rfl _ _ (w.heap.size + 1 + 1 + 1) 29 #[.int .i64 0, .slice none 0 0] (0, 0) _ rfl (by refine blk_put (cs := #[.int .i64 0, .slice none 0 0]) ?_ 1 _ rfl; refine blk_put (cs := #[.int .i64 0, .slice none 0 0]) ?_ 0 _ rfl; exact b36.out) Try.underlying29 rfl (by kernel_rfl)) rfl ?_
  exact ⟨_, rfl, Kd.S_nil _ _ _ _ _, below_set (below_set B6.out (by omega)) (by omega)⟩
 | true =>
  have HOO := HO.out
  simp only [outSA, if_true, Prod.mk.injEq] at HOO
  obtain ⟨rfl, rfl, rfl, rfl⟩ := HOO
  clear HO HQ
  go_wp2_with (go_at_call 81; refine CC.out.2.2.2.mono ?_; rintro e w5 ⟨v1_, rfl, hs5, hst5, hz5⟩; obtain ⟨Av, cv, ev⟩ := Kd.S_slice hs5; subst ev; have SZ := Aside0.mk CC.out.1; have BA := Aside0.mk CC.out.2.1; have S5 := Aside0.mk hs5; have ST5 := Aside0.mk hst5; have b35 := Aside0.mk (grown_blk hst5.1 CC.out.2.2.1 (by omega)); clear CC hs5 hst5 hz5)
  obtain ⟨m, hm, hmv⟩ := ST5.out.2
  have hmv := hmv rfl
  subst hmv
  have MB5 := Aside0.mk hm
  have b36 := Aside0.mk (blk_alloc b35.out (.cells #[.int .i64 q1, .slice Av q2.length cv] 29))
  have m36 := Aside0.mk (blk_alloc MB5.out (.cells #[.int .i64 q1, .slice Av q2.length cv] 29))
  have o36 := Aside0.mk (heap_alloc_new w5 (.cells #[.int .i64 q1, .slice Av q2.length cv] 29))
  have B6 := Aside0.mk ((BA.out.trans ((grown_below (base := w.heap.size) ST5.out.1 (by omega) (by rw [SZ.out]; omega)).mono (Nat.le_refl _))).alloc (Nat.le_trans BA.out.size ST5.out.1.size) (.cells #[.int .i64 q1, .slice Av q2.length cv] 29))
  have S6 := Aside0.mk (Kd.S_alloc (Kd.S_lower S5.out BA.out.size) (.cells #[.int .i64 q1, .slice Av q2.length cv] 29))
  obtain ⟨W6, hW6⟩ : ∃ W6, W6 = w5.alloc (.cells #[.int .i64 q1, .slice Av q2.length cv] 29) := ⟨_, rfl⟩
  rw [← hW6] at b36 m36 o36 B6 S6 ⊢
  clear hm hW6 MB5 ST5 b35 S5
  have hz0 : W6.cell? ⟨w.heap.size + 1 + 1 + 1, 0, none⟩ = some (.int .i64 0) := (blk_cell b36.out 0).trans rfl
  have hz1 : W6.cell? ⟨w.heap.size + 1 + 1 + 1, 1, none⟩ = some (.slice none 0 0) := (blk_cell b36.out 1).trans rfl
  have hf0 := blk_frozen b36.out 0
  have hf1 := blk_frozen b36.out 1
  have hm0 : W6.cell? ⟨w.heap.size + 1 + 1 + 1 + 1, 0, none⟩ = some (.int .i64 ((l2.length * cntA (hasI l1) q2 : Nat) : Int)) := (blk_cell m36.out 0).trans rfl
  have ho0 : W6.cell? ⟨w5.heap.size, 0, none⟩ = some (.int .i64 q1) := (blk_cell o36.out 0).trans rfl
  have ho1 : W6.cell? ⟨w5.heap.size, 1, none⟩ = some (.slice Av q2.length cv) := (blk_cell o36.out 1).trans rfl
  obtain ⟨mm, hmm⟩ : ∃ mm : Int, mm = ((l2.length * cntA (hasI l1) q2 : Nat) : Int) := ⟨_, rfl⟩
  rw [← hmm] at hm0
  have HMM : Aside0 (mm = (l2.length : Int) * (cntA (hasI l1) q2 : Int)) := ⟨by rw [hmm, Int.natCast_mul]⟩
  clear hmm
  go_region_with (fail)
  all_goals
   go_wp2
   refine bodyPost_ret (results_ctt rfl _ _ (w.heap.size + 1 + 1 + 1) 29 #[.int .i64 q1, .slice Av q2.length cv] (0, 0) _ rfl (by refine blk_put (cs := #[.int .i64 q1, .slice none 0 0]) ?_ 1 _ rfl; refine blk_put (cs := #[.int .i64 0, .slice none 0 0]) ?_ 0 _ rfl; exact b36.out) Try.underlying29 rfl (by kernel_rfl)) rfl ?_
   rw [← HMM.out]
   exact ⟨_, rfl, Kd.S_drew (Kd.S_mono (Kd.S_far (p := ⟨w.heap.size + 1 + 1 + 1, 1, none⟩) (Kd.S_far (p := ⟨w.heap.size + 1 + 1 + 1, 0, none⟩) (Kd.S_types S6.out b36.out (by decide)) (fun _ hk => hk.2) _) (fun _ hk => hk.2) _) (fun _ _ => trivial)), (below_set (below_set B6.out (by omega)) (by omega)).drew⟩


/-! ### spec_l00In: function 66 -/
def spec_l00In.f (a0 : Int) (a1 : Int) (a2 : Int) : Option (Bool) := if a0 ≥ a1 then (some (decide (a0 ≤ a2))) else (some false)
set_option maxHeartbeats 8000000 in
set_option maxRecDepth 100000 in
theorem spec_l00In.calls (a0 : Int) (a1 : Int) (a2 : Int) (r : Bool) (w : World) (h : spec_l00In.f a0 a1 a2 = some r) :
  Calls Try.prog 66 #[.int .i64 a0, .int .i64 a1, .int .i64 a2] w fun e w' => e = .returned (.bool r) ∧ Drawn0 w w' := by
 have H : (if a0 ≥ a1 then (some (decide (a0 ≤ a2))) else (some false)) = some r := h
 clear h
 by_cases c4 : a0 ≥ a1
 ·rw [if_pos c4] at H
  have c4b0 : decide (a1 ≤ a0) = true := decide_eq_true c4
  clear c4
  obtain rfl := Option.some.inj H
  go_enter Try.func66, Try.ntmps66
  go_wp2
  go_ret
  exact ⟨by first | rfl | (simp; done) | (simp [*]; done), by repeat (first | exact Drawn0.refl _ | apply Drawn0.step)⟩
 ·rw [if_neg c4] at H
  have c4b0 : decide (a1 ≤ a0) = false := decide_eq_false c4
  clear c4
  obtain rfl := Option.some.inj H
  go_enter Try.func66, Try.ntmps66
  go_wp2
  go_ret
  exact ⟨by first | rfl | (simp; done) | (simp [*]; done), by repeat (first | exact Drawn0.refl _ | apply Drawn0.step)⟩

/-! ### spec_l02Id: function 75 -/
def spec_l02Id.f (a0 : Int) : Option (Bool) := (spec_l00In.f a0 1 1000).bind fun t163 => (some t163)
set_option maxHeartbeats 8000000 in
set_option maxRecDepth 100000 in
theorem spec_l02Id.calls (a0 : Int) (r : Bool) (w : World) (h : spec_l02Id.f a0 = some r) :
  Calls Try.prog 75 #[.int .i64 a0] w fun e w' => e = .returned (.bool r) ∧ Drawn0 w w' := by
 have H : ((spec_l00In.f a0 1 1000).bind fun t163 => (some t163)) = some r := h
 clear h
 replace H := Option.bind_eq_some_iff.mp H
 obtain ⟨t163, A20, H⟩ := H
 replace H : (some t163) = some r := H
 have A2 := Aside0.mk A20
 clear A20
 obtain rfl := Option.some.inj H
 go_enter Try.func75, Try.ntmps75
 go_wp2_with (first | ((with_reducible refine gate_callee (f := 66) rfl ?_); refine goesL_ (some 4) rfl rfl Try.func66 (by kernel_rfl) rfl #[.int .i64 a0, .int .i64 1, .int .i64 1000] rfl (by (try simp only [List.map_toArray, List.map_cons, List.map_nil]); first | done | rfl | (simp only [List.length_drop, List.length_take]; rfl)) ?_; (with_reducible refine (spec_l00In.calls a0 1 1000 t163 _ A2.out).mono ?_); rintro e w' ⟨rfl, ⟨nd, rfl⟩⟩; refine ⟨_, rfl, ?_⟩))
 go_ret
 exact ⟨by first | rfl | (simp; done) | (simp [*]; done), by repeat (first | exact Drawn0.refl _ | apply Drawn0.step)⟩

/-! ### spec_l04Parcel: function 97 -/
def spec_l04Parcel.f (a0_0 : Int) (a0_1 : Int) : Option (Bool) := (spec_l00In.f a0_0 1 1000).bind fun t165 => (if t165 = true then ((spec_l00In.f a0_1 1 1000000).bind fun t166 => (some t166)) else (some false))
set_option maxHeartbeats 8000000 in
set_option maxRecDepth 100000 in
theorem spec_l04Parcel.calls (a0_0 : Int) (a0_1 : Int) (r : Bool) (w : World) (h : spec_l04Parcel.f a0_0 a0_1 = some r) :
  Calls Try.prog 97 #[.agg #[.int .i64 a0_0, .int .i64 a0_1]] w fun e w' => e = .returned (.bool r) ∧ Below w.heap.size w w' := by
 have hu60 := Try.underlying60
 have HB := Aside0.mk (Below.refl w.heap.size w)
 have H : ((spec_l00In.f a0_0 1 1000).bind fun t165 => (if t165 = true then ((spec_l00In.f a0_1 1 1000000).bind fun t166 => (some t166)) else (some false))) = some r := h
 clear h
 replace H := Option.bind_eq_some_iff.mp H
 obtain ⟨t165, A20, H⟩ := H
 replace H : (if t165 = true then ((spec_l00In.f a0_1 1 1000000).bind fun t166 => (some t166)) else (some false)) = some r := H
 have A2 := Aside0.mk A20
 clear A20
 by_cases c3 : t165 = true
 ·subst c3
  have H1 : ((spec_l00In.f a0_1 1 1000000).bind fun t166 => (some t166)) = some r := by rw [if_pos rfl] at H; exact H
  clear H
  have H := H1
  clear H1
  replace H := Option.bind_eq_some_iff.mp H
  obtain ⟨t166, A40, H⟩ := H
  replace H : (some t166) = some r := H
  have A4 := Aside0.mk A40
  clear A40
  obtain rfl := Option.some.inj H
  go_enter Try.func97, Try.ntmps97
  go_wp2_with (first | ((with_reducible refine gate_dst (N := 1) rfl ?_); refine box_event ?hg (N := 1) ?hd (cs := #[.int .i64 a0_0, .int .i64 a0_1]) (t := 60) ?hr ?_; (case hd => rfl); (case hg => rfl); (case hr => first | (go_simp; done) | (go_simp; rfl)); intro gb164 hg w5 hbox hb; have n0_ := Aside0.mk (below_step (by repeat (first | (with_reducible first | exact HB.out | apply below_alloc | apply pw_below_drewN | apply below_drew1) | exact HB.out)) hb); have n1_ := Aside0.mk (hbox); have n2_ := Aside0.mk ((by rw [hg]; exact (below_size (by repeat (first | (with_reducible first | exact HB.out | apply below_alloc | apply pw_below_drewN | apply below_drew1) | exact HB.out))) : w.heap.size ≤ gb164)); have n3_ := Aside0.mk ((by rw [hg]; exact (below_size (by repeat (first | (with_reducible first | exact HB.out | apply below_alloc | apply pw_below_drewN | apply below_drew1) | exact HB.out))) : w.heap.size ≤ gb164)); clear HB; have HB := n0_; have BK164 := n1_; have GW164 := n2_; have GE164 := n3_; clear n0_ n1_ n2_ n3_; clear hb hbox hg; have hcz6_0 : w5.cell? ⟨gb164, 0, none⟩ = some (.int .i64 a0_0) := (blk_cell BK164.out 0).trans rfl; have hcz6_1 : w5.cell? ⟨gb164, 1, none⟩ = some (.int .i64 a0_1) := (blk_cell BK164.out 1).trans rfl; have hfz6_0 := blk_frozen BK164.out 0; have hfz6_1 := blk_frozen BK164.out 1) | ((with_reducible refine gate_callee (f := 66) rfl ?_); refine goesL_ (some 5) rfl rfl Try.func66 (by kernel_rfl) rfl #[.int .i64 a0_0, .int .i64 1, .int .i64 1000] rfl (by (try simp only [List.map_toArray, List.map_cons, List.map_nil]); first | done | rfl | (simp only [List.length_drop, List.length_take]; rfl)) ?_; (with_reducible refine (spec_l00In.calls a0_0 1 1000 true _ A2.out).mono ?_); rintro e w' ⟨rfl, ⟨nd, rfl⟩⟩; refine ⟨_, rfl, ?_⟩) | (go_at_call 66; (with_reducible refine (spec_l00In.calls a0_1 1 1000000 t166 _ A4.out).mono ?_); rintro e w' ⟨rfl, ⟨nd, rfl⟩⟩))
  go_ret
  exact ⟨by first | rfl | (simp [errW_none, errW_some] <;> rfl) | (simp [*, errW_none, errW_some] <;> rfl), by repeat (first | (with_reducible first | exact HB.out | apply below_alloc | apply pw_below_drewN | apply below_drew1 | refine below_set ?_ GE164.out) | exact HB.out)⟩
 ·replace c3 := Bool.eq_false_iff.mpr c3
  subst c3
  have H1 : (some false) = some r := by rw [if_neg (show ¬ (false = true) by decide)] at H; exact H
  clear H
  have H := H1
  clear H1
  obtain rfl := Option.some.inj H
  go_enter Try.func97, Try.ntmps97
  go_wp2_with (first | ((with_reducible refine gate_dst (N := 1) rfl ?_); refine box_event ?hg (N := 1) ?hd (cs := #[.int .i64 a0_0, .int .i64 a0_1]) (t := 60) ?hr ?_; (case hd => rfl); (case hg => rfl); (case hr => first | (go_simp; done) | (go_simp; rfl)); intro gb164 hg w7 hbox hb; have n0_ := Aside0.mk (below_step (by repeat (first | (with_reducible first | exact HB.out | apply below_alloc | apply pw_below_drewN | apply below_drew1) | exact HB.out)) hb); have n1_ := Aside0.mk (hbox); have n2_ := Aside0.mk ((by rw [hg]; exact (below_size (by repeat (first | (with_reducible first | exact HB.out | apply below_alloc | apply pw_below_drewN | apply below_drew1) | exact HB.out))) : w.heap.size ≤ gb164)); have n3_ := Aside0.mk ((by rw [hg]; exact (below_size (by repeat (first | (with_reducible first | exact HB.out | apply below_alloc | apply pw_below_drewN | apply below_drew1) | exact HB.out))) : w.heap.size ≤ gb164)); clear HB; have HB := n0_; have BK164 := n1_; have GW164 := n2_; have GE164 := n3_; clear n0_ n1_ n2_ n3_; clear hb hbox hg; have hcz8_0 : w7.cell? ⟨gb164, 0, none⟩ = some (.int .i64 a0_0) := (blk_cell BK164.out 0).trans rfl; have hcz8_1 : w7.cell? ⟨gb164, 1, none⟩ = some (.int .i64 a0_1) := (blk_cell BK164.out 1).trans rfl; have hfz8_0 := blk_frozen BK164.out 0; have hfz8_1 := blk_frozen BK164.out 1) | ((with_reducible refine gate_callee (f := 66) rfl ?_); refine goesL_ (some 5) rfl rfl Try.func66 (by kernel_rfl) rfl #[.int .i64 a0_0, .int .i64 1, .int .i64 1000] rfl (by (try simp only [List.map_toArray, List.map_cons, List.map_nil]); first | done | rfl | (simp only [List.length_drop, List.length_take]; rfl)) ?_; (with_reducible refine (spec_l00In.calls a0_0 1 1000 false _ A2.out).mono ?_); rintro e w' ⟨rfl, ⟨nd, rfl⟩⟩; refine ⟨_, rfl, ?_⟩))
  go_ret
  exact ⟨by first | rfl | (simp [errW_none, errW_some] <;> rfl) | (simp [*, errW_none, errW_some] <;> rfl), by repeat (first | (with_reducible first | exact HB.out | apply below_alloc | apply pw_below_drewN | apply below_drew1 | refine below_set ?_ GE164.out) | exact HB.out)⟩

end Go.Proofs.Ytgpiaeklhhacjaa.XFnHeld
