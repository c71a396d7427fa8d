-- The print's words of YtaafhggihebicaaSH, those that this claim's texts need (slim.py). Not trusted: Lean checks it.
import Derived.Ground.Names8Prog
import Derived.OwnWalk
import Derived.Shelf.Spec.SlicesGrow
import Derived.Shelf.Small.Strs
import Derived.Shelf.Strings.Search1
import Derived.Ground.SlgnProg
import Derived.Shelf.SlicesE.Index
import Derived.Shelf.SlicesE.Equal
import Derived.Test.YtaafhggihebicaaProg
namespace Go.Proofs
open Go.Shelf
def Try.laysGrow_f114_ren : Go.Shelf.Ren := ⟨fun | 4 => 114 | n => n, fun | 22 => 28 | 25 => 90 | 3 => 3 | 4 => 4 | 9 => 9 | 20 => 20 | 0 => 0 | 2 => 2 | n => n, fun | n => n⟩
theorem Try.laysGrow_f114 : Go.Proofs.Lays8.n4 Try.prog Try.laysGrow_f114_ren := {
  mixed := by kernel_rfl
  f4 := ⟨Try.f114.name, by decide, Try.func114.trans (congrArg some (by kernel_rfl))⟩
  t0 := Try.underlying0
  a0 := Try.isAgg0
  z0 := Try.sizeOf0
  v0 := Try.zeroValue0
  t3 := Try.underlying3
  a3 := Try.isAgg3
  z3 := Try.sizeOf3
  v3 := Try.zeroValue3
  t4 := Try.underlying4
  a4 := Try.isAgg4
  z4 := Try.sizeOf4
  v4 := Try.zeroValue4
  t9 := Try.underlying9
  a9 := Try.isAgg9
  z9 := Try.sizeOf9
  v9 := Try.zeroValue9
  t20 := Try.underlying20
  a20 := Try.isAgg20
  z20 := Try.sizeOf20
  v20 := Try.zeroValue20
  t22 := Try.underlying28
  a22 := Try.isAgg28
  z22 := Try.sizeOf28
  v22 := Try.zeroValue28 }
theorem Try.slices_Grow_room_f114 (base : Option Addr) (l c n : Nat) (w : World) (hlc : l ≤ c) (hc63 : c ≤ 9223372036854775807) (hn63 : n ≤ 9223372036854775807) (hroom : l + n ≤ c) :
    Calls Try.prog 114 #[.slice base l c, .int .i64 n] w fun e w' => e = .returned (.slice base l c) ∧ w' = w := Any8.slices_Grow_room Try.laysGrow_f114 base l c n w hlc hc63 hn63 hroom
theorem Try.slices_Grow_grow_f114 (base : Option Addr) (l c n : Nat) (cs : List Value) (w : World) (hlc : l ≤ c) (hroom : c < l + n) (hbig : (l + n) * 16 ≤ 140737488355328) (h63 : l + n ≤ 4611686018427387904) (hcl : cs.length = c * 2) (hnil : base = none → c = 0) (hcs : ∀ a, base = some a → ∀ j v, cs[j]? = some v → w.cell? (a.add j) = some v) :
    Calls Try.prog 114 #[.slice base l c, .int .i64 n] w fun e w' => e = .returned (.slice (some ⟨w.heap.size, 0, none⟩) l (grownCap w (l + n) c 90)) ∧ w' = w.drew.alloc (.cells (cs.toArray ++ Builtin.zeroCells #[.int .i64 0, .int .i64 0] (l + n - c) ++ Builtin.zeroCells #[.int .i64 0, .int .i64 0] (grownCap w (l + n) c 90 - (l + n))) 90) := by
  obtain ⟨i0, hi, hz0, hz1, hz2⟩ := Go.info_parts (show (Try.prog.info? 90).map (fun i => (i.zero, i.size, i.bytes)) = some (some (.agg #[.int .i64 0, .int .i64 0]), 2, 16) by kernel_rfl)
  exact Any8.slices_Grow_grow Try.laysGrow_f114 i0 (.agg #[.int .i64 0, .int .i64 0]) hi hz0 (by omega) base l c n cs w hlc hroom (by rw [hz2]; exact hbig) h63 (by rw [hz1]; exact hcl) hnil hcs
end Go.Proofs
