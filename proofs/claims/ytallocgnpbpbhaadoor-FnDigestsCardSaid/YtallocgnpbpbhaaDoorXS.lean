/- Words of this session: a row of scalars of the call's own, handed to what the library's sort and its like do with it (their contracts speak of 'Holds' and 'putRow'). No condition. -/
import Derived.Test.YtallocgnpbpbhaaDoorWMore
import Derived.Sort.Grow
import Derived.Sort.EncStr
import Derived.Laws.OwnMore
namespace Go.Proofs.YtallocgnpbpbhaaDoor.XS
open Go.RowKit Go.Sort Go.Proofs.YtallocgnpbpbhaaDoorW.PrintWords Go.Proofs.YtallocgnpbpbhaaDoorW.PrintLast Go.Proofs.YtallocgnpbpbhaaDoorW.PrintMore
set_option linter.unusedVariables false
set_option linter.unusedSimpArgs false

section
variable {α : Type} [Inhabited α] {enc : α → Value}
theorem holds_block {w : World} {g : Nat} {cur : Array Value} {e : TypeId} {xs : List α} (hb : w.heap[g]? = some (.cells cur e (0, 0))) (ht : cur.toList.take xs.length = xs.map enc) : Holds enc w g 0 xs.toArray := by
  intro j hj
  have hj' : j < xs.length := by simpa using hj
  refine ⟨?_, by simp [World.frozen?, hb]⟩
  have h1 : (cur.toList.take xs.length)[j]? = (xs.map enc)[j]? := by rw [ht]
  rw [List.getElem?_take_of_lt hj'] at h1
  simp only [World.cell?, hb, Nat.zero_add]
  simp only [Option.isSome_none, Bool.false_eq_true, if_false]
  rw [← Array.getElem?_toList, h1]
  simp [hj']
theorem heap_put {w : World} {g n : Nat} {os : Array Obj} {cur : Array Value} {e : TypeId} {fr : Nat × Nat} (d : Array α) (hb : w.heap[g]? = some (.cells cur e fr)) :
    (grow (putRow enc (Sort.ahead w n) g 0 d) os).heap[g]? = some (.cells (putCells enc 0 d cur) e fr) := by
  have hg : g < w.heap.size := (Array.getElem?_eq_some_iff.1 hb).1
  rw [heap_grow_old _ _ (by simpa using hg)]
  simp [putRow, mapBlock, Sort.ahead, Array.getElem?_modify, hb, onCells]
theorem grown_put {w : World} {g n : Nat} {os : Array Obj} (d : Array α) : w.grownBy (grow (putRow enc (Sort.ahead w n) g 0 d) os) (some g) := by
  refine ⟨rfl, rfl, rfl, by simp, fun k hk hne => ?_⟩
  rw [heap_grow_old _ _ (by simpa using hk)]
  have : g ≠ k := fun e => hne (by rw [e])
  simp [putRow, mapBlock, Sort.ahead, Array.getElem?_modify, this]
theorem take_put (cur : Array Value) (ts : List α) (m : Nat) (hm : m ≤ ts.length) (h : ts.length ≤ cur.size) : (putCells enc 0 ts.toArray cur).toList.take m = (ts.take m).map enc := by
  apply List.ext_getElem?
  intro j
  by_cases c : j < m
  · rw [List.getElem?_take_of_lt c]
    have h2 : j < cur.size := by omega
    have h3 : j < ts.length := by omega
    rw [Array.getElem?_toList]
    simp [putCells, h2, h3, c]
  · rw [List.getElem?_eq_none (by simp; omega), List.getElem?_eq_none (by simp; omega)]
/-- A row of the call's own is nil, or lies at the head of a block; what a sort or its like puts there is a row of the call's own again, cut to whatever length. -/
theorem own_row {h1 : ∀ x, (enc x).oneCell' = true} {w w0 : World} {e : Nat} {P : Nat → Prop} {u : Value} {l : List α} (ho : (Kd.scalar enc h1).R e w w0.heap.size P u l) (hB : Below w0.heap.size w0 w) :
    (u = .slice none 0 0 ∧ l = []) ∨ ∃ g cap, u = .slice (some ⟨g, 0, none⟩) l.length cap ∧ g < w.heap.size ∧ l.length ≤ cap ∧ cap ≤ maxLen ∧ Holds enc w g 0 l.toArray ∧
      ∀ (n : Nat) (os : Array Obj) (m : Nat) (ys : List α), ys.length = l.length → m ≤ l.length →
        (Kd.scalar enc h1).R e (grow (putRow enc (Sort.ahead w n) g 0 ys.toArray) os) w0.heap.size (fun k_ => (P k_ ∨ w.heap.size ≤ k_)) (.slice (some ⟨g, 0, none⟩) m cap) (ys.take m) ∧
        Below w0.heap.size w0 (grow (putRow enc (Sort.ahead w n) g 0 ys.toArray) os) ∧ Kept w (grow (putRow enc (Sort.ahead w n) g 0 ys.toArray) os) (fun k_ => P k_) := by
  have hown := Kd.own_of_R ho
  rcases hown.2 with ⟨rfl, hn⟩ | ⟨g, cap, cur, rfl, hbase, hb, hc1, hc2, hc3, hc4⟩
  · exact .inl ⟨rfl, List.length_eq_zero_iff.1 hn⟩
  · have hP : P g := ho.1 g rfl
    have hg : g < w.heap.size := (Array.getElem?_eq_some_iff.1 hb).1
    rw [Nat.mul_one] at hc3 hc4
    refine .inr ⟨g, cap, rfl, hg, hc1, hc2, holds_block hb hc4, fun n os m ys hy hm => ⟨?_, ?_, ?_⟩⟩
    · have hl : (ys.take m).length = m := by simp; omega
      refine Kd.R_of_own (h1 := h1) ⟨?_, .inr ⟨g, cap, _, ?_, hbase, heap_put _ hb, ?_, hc2, ?_, ?_⟩⟩ (fun k hk => ?_)
      · simp [encs]
      · rw [hl]
      · rw [hl]; omega
      · simp [putCells, hc3]
      · rw [hl, Nat.mul_one]; exact take_put cur ys m (by omega) (by omega)
      · have : g = k := by simpa [Value.ownBlock] using hk
        exact .inl (this ▸ hP)
    · exact hB.grown (grown_put _) hB.size (fun k hk => by cases hk; exact hbase)
    · exact Kept.of_grown (grown_put _) (Kept.refl _ _) (fun k hk => by cases hk; exact .inl hP)
end

/-- A row of the call's own, of elements of any kind, handed to what copies it into a longer row ('slices.Grow'). -/
theorem grow_row {α : Type} {d : Kd α} {w w0 : World} {e : Nat} {P : Nat → Prop} {u : Value} {l : List α} (ho : d.R e w w0.heap.size P u l) (hB : Below w0.heap.size w0 w) :
    ∃ (A : Option Addr) (c : Nat) (cs : List Value), u = .slice A l.length c ∧ l.length ≤ c ∧ c ≤ maxLen ∧ (A = none → c = 0) ∧ cs.length = c * d.sz ∧ (∀ a, A = some a → ∀ j v, cs[j]? = some v → w.cell? (a.add j) = some v) ∧
      ∀ (cap : Nat) (tail : Array Value), l.length ≤ cap → cap ≤ maxLen → cs.length + tail.size = cap * d.sz →
        d.R e (w.drew.alloc (.cells (cs.toArray ++ tail) e)) w0.heap.size (fun k_ => (P k_ ∨ w.heap.size ≤ k_)) (.slice (some ⟨w.heap.size, 0, none⟩) l.length cap) l := by
  obtain ⟨hok, inner, hown, hr⟩ := ho
  have fin : ∀ (cs : List Value), cs.take (l.length * d.sz) = inner → ∀ (cap : Nat) (tail : Array Value), l.length ≤ cap → cap ≤ maxLen → cs.length + tail.size = cap * d.sz → l.length * d.sz ≤ cs.length →
        d.R e (w.drew.alloc (.cells (cs.toArray ++ tail) e)) w0.heap.size (fun k_ => (P k_ ∨ w.heap.size ≤ k_)) (.slice (some ⟨w.heap.size, 0, none⟩) l.length cap) l := by
    intro cs ht cap tail h1 h2 h3 h4
    have hb' : Below w.heap.size w (w.drew.alloc (.cells (cs.toArray ++ tail) e)) := below_alloc (below_drew (Below.refl _ _)) _
    refine ⟨fun k hk => ?_, inner, ⟨hown.1, .inr ⟨w.heap.size, cap, _, rfl, hB.size, heap_alloc_new w.drew _, h1, h2, by simp [h3], ?_⟩⟩, hr.imp_ fun x c hm => ?_⟩
    · have : w.heap.size = k := by simpa [Value.ownBlock] using hk
      exact .inr (by omega)
    · rw [← ht]
      simp only [Array.toList_append, List.take_append_of_le_length h4]
    · refine d.M_mono (fun k hk => ?_) (Kd.M_below (d.M_bound hm) hb')
      refine ⟨.inl hk.1.1, fun he => ?_⟩
      have h5 : k = w.heap.size := by simpa [Value.ownBlock] using he
      have := hk.2.2.1
      omega
  rcases hown.2 with ⟨rfl, hn⟩ | ⟨g, cap, cur, rfl, hbase, hb, hc1, hc2, hc3, hc4⟩
  · refine ⟨none, 0, [], by rw [hn], by omega, by omega, fun _ => rfl, by simp, (fun a ha => by cases ha), fun cap tail h1 h2 h3 => fin [] ?_ cap tail h1 h2 h3 (by simp [hn])⟩
    have := hown.1
    rw [hn, Nat.zero_mul] at this
    rw [List.length_eq_zero_iff.1 this]; simp
  · refine ⟨some ⟨g, 0, none⟩, cap, cur.toList, rfl, hc1, hc2, (fun h => by cases h), by simpa using hc3, fun a ha j v hj => ?_, fun cap' tail h1 h2 h3 => fin cur.toList hc4 cap' tail h1 h2 h3 (by simp [hc3]; exact Nat.mul_le_mul_right _ hc1)⟩
    cases ha
    have ea : (⟨g, 0, none⟩ : Addr).add j = ⟨g, j, none⟩ := by cases j <;> simp [Addr.add]
    rw [ea]
    simp only [World.cell?, hb, Option.isSome_none, Bool.false_eq_true, if_false]
    simpa using hj

/-- Where a row of scalars that is not empty lies. -/
theorem C_addr {α : Type} [Inhabited α] {enc : α → Value} {h1 : ∀ x, (enc x).oneCell' = true} {w : World} {A : Option Addr} {xs : List α} (h : (Kd.scalar enc h1).C w A xs.length xs) (hne : 0 < xs.length) :
    ∃ b off, A = some ⟨b, off, none⟩ ∧ b < w.heap.size ∧ ∀ j, j < xs.length → w.cell? ⟨b, off + j, none⟩ = some (enc xs[j]!) := by
  obtain ⟨_, _, h3⟩ := h
  obtain ⟨⟨b, off, sp⟩, rfl, hc⟩ := h3 hne
  have key : ∀ j, j < xs.length → w.cell? ((⟨b, off, sp⟩ : Addr).add j) = some (enc xs[j]!) := by
    intro j hj
    obtain ⟨c, hl, hr, hcell⟩ := hc j xs[j] (List.getElem?_eq_getElem hj)
    have hr' : c = [enc xs[j]] := hr
    subst hr'
    have := hcell 0 _ rfl
    rw [show (Kd.scalar enc h1).sz = 1 from rfl, Nat.mul_one, Nat.add_zero] at this
    rw [this, getElem!_pos xs j hj]
  have hs : sp = none := by
    have h0 := key 0 hne
    cases sp with
    | none => rfl
    | some s =>
      have ea : (⟨b, off, some s⟩ : Addr).add 0 = ⟨b, off, some s⟩ := by simp [Addr.add]
      rw [ea] at h0
      unfold World.cell? at h0
      split at h0
      · simp at h0
      · cases h0
  subst hs
  have ea : ∀ j, (⟨b, off, none⟩ : Addr).add j = ⟨b, off + j, none⟩ := fun j => by cases j <;> simp [Addr.add]
  refine ⟨b, off, rfl, ?_, fun j hj => ?_⟩
  · have := key 0 hne
    rw [ea] at this
    exact World.block_lt_of_cell? w _ this
  · rw [← ea]; exact key j hj
end Go.Proofs.YtallocgnpbpbhaaDoor.XS
