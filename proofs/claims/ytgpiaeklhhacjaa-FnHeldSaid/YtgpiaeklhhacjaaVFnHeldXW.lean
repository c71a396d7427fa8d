-- The print's words of YtgpiaeklhhacjaaXW, those that this claim's texts need (slim.py). Not trusted: Lean checks it.
import Derived.Test.YtgpiaeklhhacjaaVFnHeldMore
import Derived.Deep.Slices
import Derived.ChangeArms
import Derived.WideShapes
import Derived.Lib.SmallJoins
import Derived.DataReads
namespace Go.Proofs.Ytgpiaeklhhacjaa.XW
open Go.RowKit Go.Proofs.YtgpiaeklhhacjaaW.PrintWords Go.Proofs.YtgpiaeklhhacjaaW.PrintLast Go.Proofs.YtgpiaeklhhacjaaW.PrintMore
def fa (p : Addr) : Nat → Addr
  | 0 => p
  | j + 1 => ⟨p.block, p.off + (j + 1), none⟩
def RPf (w : World) (p : Addr) : Nat → List Value → Prop
  | _, [] => True
  | j, v :: vs => w.cell? (fa p j) = some v ∧ RPf w p (j + 1) vs
def RP (w : World) (p : Addr) (vs : List Value) : Prop := RPf w p 0 vs
theorem RPf.below {w w1 : World} {p : Addr} : ∀ {vs : List Value} {j : Nat}, RPf w p j vs → Below w.heap.size w w1 → RPf w1 p j vs
  | [], _, _, _ => trivial
  | _ :: _, _, h, hb => ⟨pw_cell_below hb h.1, RPf.below h.2 hb⟩
theorem RP.below {w w1 : World} {p : Addr} {vs : List Value} (h : RP w p vs) (hb : Below w.heap.size w w1) : RP w1 p vs := RPf.below h hb
theorem RP.alloc {w : World} {p : Addr} {vs : List Value} (h : RP w p vs) (o : Obj) : RP (w.alloc o) p vs := RP.below h (below_alloc (Below.refl _ _) o)
theorem RP.drewN {w : World} {p : Addr} {vs : List Value} (h : RP w p vs) (n : Nat) : RP (w.drewN n) p vs := RP.below h (pw_below_drewN (Below.refl _ _) n)
theorem RP.drew {w : World} {p : Addr} {vs : List Value} (h : RP w p vs) : RP w.drew p vs := RP.below h (below_drew (Below.refl _ _))
theorem RP.lt {w : World} {p : Addr} {v : Value} {vs : List Value} (h : RP w p (v :: vs)) : p.block < w.heap.size := World.block_lt_of_cell? w _ h.1
theorem fa_block (p : Addr) : ∀ j, (fa p j).block = p.block
  | 0 => rfl
  | _ + 1 => rfl
theorem RPf.far {w : World} {p q : Addr} (hne : p.block ≠ q.block) (u : Value) : ∀ {vs : List Value} {j : Nat}, RPf w p j vs → RPf (w.setCell q u) p j vs
  | [], _, _ => trivial
  | _ :: _, j, h => ⟨(cell_far (p := q) (by rw [fa_block]; exact hne) u).trans h.1, RPf.far hne u h.2⟩
theorem RP.far {w : World} {p q : Addr} {vs : List Value} (h : RP w p vs) (hne : p.block ≠ q.block) (u : Value) : RP (w.setCell q u) p vs := RPf.far hne u h
theorem RPf.get {w : World} {p : Addr} : ∀ {vs : List Value} {j : Nat}, RPf w p j vs → ∀ (i : Nat) {v : Value}, vs[i]? = some v → w.cell? (fa p (j + i)) = some v
  | [], _, _, _, _, hi => by simp at hi
  | _ :: _, j, h, 0, _, hi => by cases hi; exact h.1
  | _ :: _, j, h, i + 1, _, hi => by
    have := RPf.get h.2 i (by simpa using hi)
    rwa [Nat.add_assoc, Nat.add_comm 1 i] at this
theorem RP.get {w : World} {p : Addr} {vs : List Value} (h : RP w p vs) (i : Nat) {v : Value} (hi : vs[i]? = some v) : w.cell? (fa p i) = some v := by
  have := RPf.get h i hi
  rwa [Nat.zero_add] at this
theorem RPf.of_block {w : World} {g : Nat} {t : TypeId} {cs : Array Value} (h : w.heap[g]? = some (.cells cs t (0, 0))) : ∀ (vs : List Value) (j : Nat), (∀ i v, vs[i]? = some v → cs[j + i]? = some v) → RPf w ⟨g, 0, none⟩ j vs
  | [], _, _ => trivial
  | v :: vs, j, hv => by
    refine ⟨?_, RPf.of_block h vs (j + 1) fun i u hu => ?_⟩
    · have h0 := hv 0 v rfl
      cases j with
      | zero => exact (blk_cell h 0).trans h0
      | succ j =>
        show w.cell? ⟨g, 0 + (j + 1), none⟩ = some v
        rw [Nat.zero_add]
        exact (blk_cell h (j + 1)).trans h0
    · have := hv (i + 1) u (by simpa using hu)
      rwa [Nat.add_assoc, Nat.add_comm 1 i]
theorem RP.of_block {w : World} {g : Nat} {t : TypeId} {vs : List Value} (h : w.heap[g]? = some (.cells vs.toArray t (0, 0))) : RP w ⟨g, 0, none⟩ vs :=
  RPf.of_block h vs 0 fun i v hv => by simpa using hv
section
open Go.ChangeShapes Go.WideShapes Go.Deep
end
@[go_sem] theorem str_geq (t : TypeId) (a b : ByteArray) : binOp .geq t (.string a) (.string b) = pure (.bool !(Op.bytesLess a.toList b.toList)) := by simp [binOp, Op.stringOp]
section
variable {α : Type} {d : Kd α} {e base b g n cap : Nat} {w0 W W2 : World} {ok oki : Nat → Prop} {v : Value} {xs : List α} {L : List Nat}
end
end Go.Proofs.Ytgpiaeklhhacjaa.XW
