-- This session's: what the laid variables of a tied row tell the walks, in every world that keeps them.
import Derived.Test.YtallocgnpbpbhaaDoorRows
import Derived.Test.YtallocgnpbpbhaaDoorSH
import Derived.Lib.LaidTab
import Derived.Lib.AppendIntMem
import Derived.MakeChecks
namespace Go.Proofs.YtallocgnpbpbhaaDoor.XD
open Go.RowKit
set_option maxRecDepth 100000
theorem var_below {P : Program} {w w' : World} {n : String} {cs : Array Value} (h : w.var? P n = some cs) (hb : Below w.heap.size w w') : w'.var? P n = some cs := by
  unfold World.var? at *
  cases hg : P.globalNamed n with
  | none => simp [hg] at h
  | some g =>
    simp only [hg, Option.bind_some] at h ⊢
    have hlt : g < w.heap.size := by
      rcases Nat.lt_or_ge g w.heap.size with h' | h'
      · exact h'
      · rw [Array.getElem?_eq_none h'] at h; simp at h
    rw [hb.block g hlt]
    exact h
theorem cell_below {w w' : World} {g : Nat} {v : Value} (h : w.cell? ⟨g, 0, none⟩ = some v) (hb : Below w.heap.size w w') : w'.cell? ⟨g, 0, none⟩ = some v := by
  have hlt : g < w.heap.size := by
    rcases Nat.lt_or_ge g w.heap.size with h' | h'
    · exact h'
    · unfold World.cell? at h; rw [Array.getElem?_eq_none h'] at h; simp at h
  unfold World.cell? at *
  rw [hb.block g hlt]
  exact h
/-- The table of tens; where b holds, the two errors' variables hold some error. -/
structure Door (b : Bool) (w : World) : Prop where
  pow : Lib.TabIs Tryd.prog w "internal/strconv.uint64pow10" .u64 Lib.pow10Tab
  syn : b = true → ∃ tp p, w.var? Tryd.prog "strconv.ErrSyntax" = some #[.iface tp p]
  ran : b = true → ∃ tp p, w.var? Tryd.prog "strconv.ErrRange" = some #[.iface tp p]
  len : ∃ m, w.cell? ⟨0, 0, none⟩ = some (.int .i64 m)
theorem Door.below {b : Bool} {w w' : World} (h : Door b w) (hb : Below w.heap.size w w') : Door b w' :=
  ⟨var_below h.pow hb, fun e => let ⟨tp, p, h⟩ := h.syn e; ⟨tp, p, var_below h hb⟩, fun e => let ⟨tp, p, h⟩ := h.ran e; ⟨tp, p, var_below h hb⟩, (let ⟨m, e⟩ := h.len; ⟨m, cell_below e hb⟩)⟩
theorem iface_of_trod {H : Type} {enc : TypeId × Value → H} {P : Program} {w : World} {sp : Nat → Bool} {fuel : Nat} {t : TypeId} {ms : Array (String × TypeId)} {cs : Array Value} {n : String} {d : DataW H} {p : List MemPlace} (ht : P.underlying t = some (.interface ms))
    (h : DataW.trod enc P w 0 sp false fuel t cs.toList = some (.iface n d, p)) : ∃ tp v, cs = #[.iface tp v] := by
  cases fuel with
  | zero => simp [DataW.trod] at h
  | succ fuel =>
    obtain ⟨l⟩ := cs
    unfold DataW.trod at h
    rw [ht] at h
    simp only at h
    split at h
    all_goals first | (cases h; done) | skip
    all_goals simp_all
theorem laid_mem {P : Program} {w : World} : ∀ {l : List (String × DataW Unit)} {ps : List MemPlace}, DataW.LaidVars P w l ps → ∀ n d, (n, d) ∈ l →
    ∃ g t cs fuel p, P.globalNamed n = some g ∧ (P.globals[g]?).map (·.type) = some t ∧ w.var? P n = some cs ∧ DataW.trod (fun _ => ()) P w 0 (fun _ => true) false fuel t cs.toList = some (d, p)
  | [], _, _, _, _, hm => by cases hm
  | (n0, d0) :: r, _, h, n, d, hm => by
    obtain ⟨g, t, cs, fuel, p, q, h1, h2, h3, h4, h5, _⟩ := h
    rcases List.mem_cons.1 hm with e | e
    · cases e; exact ⟨g, t, cs, fuel, p, h1, h2, h3, h4⟩
    · exact laid_mem h5 n d e
theorem gPow : Tryd.prog.globalNamed "internal/strconv.uint64pow10" = some 3 := by kernel_rfl
theorem tPow : (Tryd.prog.globals[3]?).map (·.type) = some 104 := by kernel_rfl
theorem pow_of {W : World} {l : List (String × DataW Unit)} (h : laidMet Tryd.prog l W) (hm : ("internal/strconv.uint64pow10", Lib.tabData .u64 Lib.pow10Tab) ∈ l) : Lib.TabIs Tryd.prog W "internal/strconv.uint64pow10" .u64 Lib.pow10Tab := by
  obtain ⟨ps, hl, _⟩ := h
  obtain ⟨g, t, cs, fuel, p, hg, ht, hv, hd⟩ := laid_mem hl _ _ hm
  obtain rfl := Option.some.inj (gPow.symm.trans hg)
  obtain rfl := Option.some.inj (tPow.symm.trans ht)
  unfold Lib.TabIs
  rw [hv, ← Lib.cells_of_tab Tryd.underlying104 Tryd.underlying52 (by kernel_rfl) (by kernel_rfl) hd]
theorem gSyn : Tryd.prog.globalNamed "strconv.ErrSyntax" = some 1 := by kernel_rfl
theorem tSyn : (Tryd.prog.globals[1]?).map (·.type) = some 65 := by kernel_rfl
theorem gRan : Tryd.prog.globalNamed "strconv.ErrRange" = some 2 := by kernel_rfl
theorem tRan : (Tryd.prog.globals[2]?).map (·.type) = some 65 := by kernel_rfl
theorem syn_of {W : World} {l : List (String × DataW Unit)} (h : laidMet Tryd.prog l W) (hm : ("strconv.ErrSyntax", Rows.laid_strconv_ErrSyntax) ∈ l) : ∃ tp p, W.var? Tryd.prog "strconv.ErrSyntax" = some #[.iface tp p] := by
  obtain ⟨ps, hl, _⟩ := h
  obtain ⟨g, t, cs, fuel, p, hg, ht, hv, hd⟩ := laid_mem hl _ _ hm
  obtain rfl := Option.some.inj (gSyn.symm.trans hg)
  obtain rfl := Option.some.inj (tSyn.symm.trans ht)
  obtain ⟨tp, v, rfl⟩ := iface_of_trod Tryd.underlying65 hd
  exact ⟨tp, v, hv⟩
theorem ran_of {W : World} {l : List (String × DataW Unit)} (h : laidMet Tryd.prog l W) (hm : ("strconv.ErrRange", Rows.laid_strconv_ErrRange) ∈ l) : ∃ tp p, W.var? Tryd.prog "strconv.ErrRange" = some #[.iface tp p] := by
  obtain ⟨ps, hl, _⟩ := h
  obtain ⟨g, t, cs, fuel, p, hg, ht, hv, hd⟩ := laid_mem hl _ _ hm
  obtain rfl := Option.some.inj (gRan.symm.trans hg)
  obtain rfl := Option.some.inj (tRan.symm.trans ht)
  obtain ⟨tp, v, rfl⟩ := iface_of_trod Tryd.underlying65 hd
  exact ⟨tp, v, hv⟩
theorem door_fnDigests {W : World} (h0 : laidMetH Tryd.prog Rows.fnDigestsRow.laid W) (hSh : W.ShapedOpen Tryd.prog) : Door true W := by
  have h : laidMet Tryd.prog Rows.fnDigestsRow.laid W := by
    rw [MakeChecks.laidMetH_plain _ _ _ (by kernel_rfl)] at h0; exact h0
  exact ⟨pow_of h (List.mem_of_getElem? (i := 2) rfl), (fun _ => syn_of h (List.mem_of_getElem? (i := 5) rfl)), (fun _ => ran_of h (List.mem_of_getElem? (i := 4) rfl)), Tryd.laysM146.s1_3 W hSh⟩
end Go.Proofs.YtallocgnpbpbhaaDoor.XD
