/- Words of this session: a row of scalars of the call's own, handed to what the library's sort and its like do with it (their contracts speak of 'Holds' and 'putRow'). No condition. -/
import Derived.Test.YtgpiaeklhhacjaaWMore
import Derived.Sort.Grow
import Derived.Sort.EncStr
import Derived.Laws.OwnMore
namespace Go.Proofs.Ytgpiaeklhhacjaa.XS
open Go.RowKit Go.Sort Go.Proofs.YtgpiaeklhhacjaaW.PrintWords Go.Proofs.YtgpiaeklhhacjaaW.PrintLast Go.Proofs.YtgpiaeklhhacjaaW.PrintMore
set_option linter.unusedVariables false
set_option linter.unusedSimpArgs false

section
variable {α : Type} [Inhabited α] {enc : α → Value}
theorem holds_block {w : World} {g : Nat} {cur : Array Value} {e : TypeId} {xs : List α} (hb : w.heap[g]? = some (.cells cur e (0, 0))) (ht : cur.toList.take xs.length = xs.map enc) : Holds enc w g 0 xs.toArray := by
  intro j hj
  have hj' : j < xs.length := by simpa using hj
  refine ⟨?_, by simp [World.frozen?, hb]⟩
  have h1 : (cur.toList.take xs.length)[j]? = (xs.map enc)[j]? := by rw [ht]
  rw [List.getElem?_take_of_lt hj'] at h1
  simp only [World.cell?, hb, Nat.zero_add]
  simp only [Option.isSome_none, Bool.false_eq_true, if_false]
  rw [← Array.getElem?_toList, h1]
  simp [hj']
theorem heap_put {w : World} {g n : Nat} {os : Array Obj} {cur : Array Value} {e : TypeId} {fr : Nat × Nat} (d : Array α) (hb : w.heap[g]? = some (.cells cur e fr)) :
    (grow (putRow enc (Sort.ahead w n) g 0 d) os).heap[g]? = some (.cells (putCells enc 0 d cur) e fr) := by
  have hg : g < w.heap.size := (Array.getElem?_eq_some_iff.1 hb).1
  rw [heap_grow_old _ _ (by simpa using hg)]
  simp [putRow, mapBlock, Sort.ahead, Array.getElem?_modify, hb, onCells]
theorem grown_put {w : World} {g n : Nat} {os : Array Obj} (d : Array α) : w.grownBy (grow (putRow enc (Sort.ahead w n) g 0 d) os) (some g) := by
  refine ⟨rfl, rfl, rfl, by simp, fun k hk hne => ?_⟩
  rw [heap_grow_old _ _ (by simpa using hk)]
  have : g ≠ k := fun e => hne (by rw [e])
  simp [putRow, mapBlock, Sort.ahead, Array.getElem?_modify, this]
theorem take_put (cur : Array Value) (ts : List α) (m : Nat) (hm : m ≤ ts.length) (h : ts.length ≤ cur.size) : (putCells enc 0 ts.toArray cur).toList.take m = (ts.take m).map enc := by
  apply List.ext_getElem?
  intro j
  by_cases c : j < m
  · rw [List.getElem?_take_of_lt c]
    have h2 : j < cur.size := by omega
    have h3 : j < ts.length := by omega
    rw [Array.getElem?_toList]
    simp [putCells, h2, h3, c]
  · rw [List.getElem?_eq_none (by simp; omega), List.getElem?_eq_none (by simp; omega)]
/-- A row of the call's own is nil, or lies at the head of a block; what a sort or its like puts there is a row of the call's own again, cut to whatever length. -/
theorem own_row {h1 : ∀ x, (enc x).oneCell' = true} {w w0 : World} {e : Nat} {P : Nat → Prop} {u : Value} {l : List α} (ho : (Kd.scalar enc h1).R e w w0.heap.size P u l) (hB : Below w0.heap.size w0 w) :
    (u = .slice none 0 0 ∧ l = []) ∨ ∃ g cap, u = .slice (some ⟨g, 0, none⟩) l.length cap ∧ g < w.heap.size ∧ l.length ≤ cap ∧ cap ≤ maxLen ∧ Holds enc w g 0 l.toArray ∧
      ∀ (n : Nat) (os : Array Obj) (m : Nat) (ys : List α), ys.length = l.length → m ≤ l.length →
        (Kd.scalar enc h1).R e (grow (putRow enc (Sort.ahead w n) g 0 ys.toArray) os) w0.heap.size (fun k_ => (P k_ ∨ w.heap.size ≤ k_)) (.slice (some ⟨g, 0, none⟩) m cap) (ys.take m) ∧
        Below w0.heap.size w0 (grow (putRow enc (Sort.ahead w n) g 0 ys.toArray) os) ∧ Kept w (grow (putRow enc (Sort.ahead w n) g 0 ys.toArray) os) (fun k_ => P k_) := by
  have hown := Kd.own_of_R ho
  rcases hown.2 with ⟨rfl, hn⟩ | ⟨g, cap, cur, rfl, hbase, hb, hc1, hc2, hc3, hc4⟩
  · exact .inl ⟨rfl, List.length_eq_zero_iff.1 hn⟩
  · have hP : P g := ho.1 g rfl
    have hg : g < w.heap.size := (Array.getElem?_eq_some_iff.1 hb).1
    rw [Nat.mul_one] at hc3 hc4
    refine .inr ⟨g, cap, rfl, hg, hc1, hc2, holds_block hb hc4, fun n os m ys hy hm => ⟨?_, ?_, ?_⟩⟩
    · have hl : (ys.take m).length = m := by simp; omega
      refine Kd.R_of_own (h1 := h1) ⟨?_, .inr ⟨g, cap, _, ?_, hbase, heap_put _ hb, ?_, hc2, ?_, ?_⟩⟩ (fun k hk => ?_)
      · simp [encs]
      · rw [hl]
      · rw [hl]; omega
      · simp [putCells, hc3]
      · rw [hl, Nat.mul_one]; exact take_put cur ys m (by omega) (by omega)
      · have : g = k := by simpa [Value.ownBlock] using hk
        exact .inl (this ▸ hP)
    · exact hB.grown (grown_put _) hB.size (fun k hk => by cases hk; exact hbase)
    · exact Kept.of_grown (grown_put _) (Kept.refl _ _) (fun k hk => by cases hk; exact .inl hP)
end
end Go.Proofs.Ytgpiaeklhhacjaa.XS
