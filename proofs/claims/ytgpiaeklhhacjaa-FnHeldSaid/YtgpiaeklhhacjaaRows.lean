/-
  No cell of these rows narrows 'for every input' (looked for: loops, veiled, ifaces, maps, wideKeys, modest, calm, conditions, laid).
  DERIVED. THE GIVEN ROWS OF THIS SEAT. 12 by the template 'for every input the law returns true; each argument reads behind the call as it read before'; 0 by the template 'total and deterministic' (their statements: YtgpiaeklhhacjaaTotals.lean).
  GIVEN WITH THE SEED: the statements are not yours to turn. If you find one false, say at which input.
  Laid BY PROGRAM, IN A SANDBOX (cutbox-rows.mjs): the forced cells as the released guide's own fill.sh prints them over the translation 9bad0e4d1ed18010… (all of the seat's roots in one cut). By AI agents, Wed Nov 11 2026. No macro, syntax, notation, axiom, sorry.
-/
import Derived.Test.YtgpiaeklhhacjaaChecked
import GoSem.Claim
import GoSem.ClaimJoined
import GoSem.ClaimMapViews
import Derived.JoinedTies
import Derived.KernelRfl
namespace Go.Proofs.Ytgpiaeklhhacjaa
/- THE CELL 'sum', in the pinned program and in every row, IS THE sha256 OF THE DUMP (.gsa) THAT YtgpiaeklhhacjaaProg.lean LOADS. Nothing in Lean hashes anything: it is a label: what it is worth is what the hold of that sum in a sandbox is worth. -/
noncomputable def Try.pinned : Pinned := { name := "ytgpiaeklhhacjaa", sum := "9bad0e4d1ed18010398b1e77cedf4469c78feb4460bd3600cc410a22a640e105", checked := Try.checked }
namespace Rows
def none {H : Type} : Left H := { results := [], args := [] }

/-- 'laws.FnExactSamePost': WHATEVER THE INPUT: true; the input reads as it did. -/
def fnExactSamePostSpec : ChangeSpec := { name := "fnExactSamePost", fn := fun _ => fun
  | [d1, d2] => { results := [.lit (.bool true)], args := [d1, d2] }
  | _ => none }
def fnExactSamePostRow : OpenClaim := { program := "ytgpiaeklhhacjaa", sum := "9bad0e4d1ed18010398b1e77cedf4469c78feb4460bd3600cc410a22a640e105", func := "loop.example/g01202/laws.FnExactSamePost", spec := "fnExactSamePost", unfollowed := true, recurses := true, apart := false }
def FnExactSamePostSaid : Prop := fnExactSamePostRow.holds Try.pinned (OpenSpec.ofChange fnExactSamePostSpec)

/-- ITS FALSE NEIGHBOUR: 'it returns false'. Refute it at one input. -/
def fnExactSamePostWrong : ChangeSpec := { name := "fnExactSamePost", fn := fun _ => fun
  | [d1, d2] => { results := [.lit (.bool false)], args := [d1, d2] }
  | _ => none }
def FnExactSamePostWrongFalsely : Prop := fnExactSamePostRow.holds Try.pinned (OpenSpec.ofChange fnExactSamePostWrong)

/-- 'laws.FnExactNewPost': WHATEVER THE INPUT: true; the input reads as it did. -/
def fnExactNewPostSpec : ChangeSpec := { name := "fnExactNewPost", fn := fun _ => fun
  | [d] => { results := [.lit (.bool true)], args := [d] }
  | _ => none }
def fnExactNewPostRow : OpenClaim := { program := "ytgpiaeklhhacjaa", sum := "9bad0e4d1ed18010398b1e77cedf4469c78feb4460bd3600cc410a22a640e105", func := "loop.example/g01202/laws.FnExactNewPost", spec := "fnExactNewPost", unfollowed := true, recurses := true, apart := false }
def FnExactNewPostSaid : Prop := fnExactNewPostRow.holds Try.pinned (OpenSpec.ofChange fnExactNewPostSpec)

/-- ITS FALSE NEIGHBOUR: 'it returns false'. Refute it at one input. -/
def fnExactNewPostWrong : ChangeSpec := { name := "fnExactNewPost", fn := fun _ => fun
  | [d] => { results := [.lit (.bool false)], args := [d] }
  | _ => none }
def FnExactNewPostWrongFalsely : Prop := fnExactNewPostRow.holds Try.pinned (OpenSpec.ofChange fnExactNewPostWrong)

/-- 'laws.FnExactValidPost': WHATEVER THE INPUT: true; the input reads as it did. -/
def fnExactValidPostSpec : ChangeSpec := { name := "fnExactValidPost", fn := fun _ => fun
  | [d] => { results := [.lit (.bool true)], args := [d] }
  | _ => none }
def fnExactValidPostRow : OpenClaim := { program := "ytgpiaeklhhacjaa", sum := "9bad0e4d1ed18010398b1e77cedf4469c78feb4460bd3600cc410a22a640e105", func := "loop.example/g01202/laws.FnExactValidPost", spec := "fnExactValidPost", unfollowed := true, recurses := true, apart := false }
def FnExactValidPostSaid : Prop := fnExactValidPostRow.holds Try.pinned (OpenSpec.ofChange fnExactValidPostSpec)

/-- ITS FALSE NEIGHBOUR: 'it returns false'. Refute it at one input. -/
def fnExactValidPostWrong : ChangeSpec := { name := "fnExactValidPost", fn := fun _ => fun
  | [d] => { results := [.lit (.bool false)], args := [d] }
  | _ => none }
def FnExactValidPostWrongFalsely : Prop := fnExactValidPostRow.holds Try.pinned (OpenSpec.ofChange fnExactValidPostWrong)

/-- 'laws.FnExactLoadsOf': WHATEVER THE INPUT: true; the input reads as it did. -/
def fnExactLoadsOfSpec : ChangeSpec := { name := "fnExactLoadsOf", fn := fun _ => fun
  | [d] => { results := [.lit (.bool true)], args := [d] }
  | _ => none }
def fnExactLoadsOfRow : OpenClaim := { program := "ytgpiaeklhhacjaa", sum := "9bad0e4d1ed18010398b1e77cedf4469c78feb4460bd3600cc410a22a640e105", func := "loop.example/g01202/laws.FnExactLoadsOf", spec := "fnExactLoadsOf", unfollowed := true, recurses := true, apart := false }
def FnExactLoadsOfSaid : Prop := fnExactLoadsOfRow.holds Try.pinned (OpenSpec.ofChange fnExactLoadsOfSpec)

/-- ITS FALSE NEIGHBOUR: 'it returns false'. Refute it at one input. -/
def fnExactLoadsOfWrong : ChangeSpec := { name := "fnExactLoadsOf", fn := fun _ => fun
  | [d] => { results := [.lit (.bool false)], args := [d] }
  | _ => none }
def FnExactLoadsOfWrongFalsely : Prop := fnExactLoadsOfRow.holds Try.pinned (OpenSpec.ofChange fnExactLoadsOfWrong)

/-- 'laws.FnExactTokensOf': WHATEVER THE INPUT: true; the input reads as it did. -/
def fnExactTokensOfSpec : ChangeSpec := { name := "fnExactTokensOf", fn := fun _ => fun
  | [d1, d2] => { results := [.lit (.bool true)], args := [d1, d2] }
  | _ => none }
def fnExactTokensOfRow : OpenClaim := { program := "ytgpiaeklhhacjaa", sum := "9bad0e4d1ed18010398b1e77cedf4469c78feb4460bd3600cc410a22a640e105", func := "loop.example/g01202/laws.FnExactTokensOf", spec := "fnExactTokensOf", unfollowed := true, recurses := true, apart := false }
def FnExactTokensOfSaid : Prop := fnExactTokensOfRow.holds Try.pinned (OpenSpec.ofChange fnExactTokensOfSpec)

/-- ITS FALSE NEIGHBOUR: 'it returns false'. Refute it at one input. -/
def fnExactTokensOfWrong : ChangeSpec := { name := "fnExactTokensOf", fn := fun _ => fun
  | [d1, d2] => { results := [.lit (.bool false)], args := [d1, d2] }
  | _ => none }
def FnExactTokensOfWrongFalsely : Prop := fnExactTokensOfRow.holds Try.pinned (OpenSpec.ofChange fnExactTokensOfWrong)

/-- 'laws.FnHeld': WHATEVER THE INPUT: true; the input reads as it did. -/
def fnHeldSpec : ChangeSpec := { name := "fnHeld", fn := fun _ => fun
  | [d1, d2] => { results := [.lit (.bool true)], args := [d1, d2] }
  | _ => none }
def fnHeldRow : OpenClaim := { program := "ytgpiaeklhhacjaa", sum := "9bad0e4d1ed18010398b1e77cedf4469c78feb4460bd3600cc410a22a640e105", func := "loop.example/g01202/laws.FnHeld", spec := "fnHeld", unfollowed := true, recurses := true, apart := false }
def FnHeldSaid : Prop := fnHeldRow.holds Try.pinned (OpenSpec.ofChange fnHeldSpec)

/-- ITS FALSE NEIGHBOUR: 'it returns false'. Refute it at one input. -/
def fnHeldWrong : ChangeSpec := { name := "fnHeld", fn := fun _ => fun
  | [d1, d2] => { results := [.lit (.bool false)], args := [d1, d2] }
  | _ => none }
def FnHeldWrongFalsely : Prop := fnHeldRow.holds Try.pinned (OpenSpec.ofChange fnHeldWrong)

/-- 'laws.FnExactWithoutRoom': WHATEVER THE INPUT: true; the input reads as it did. -/
def fnExactWithoutRoomSpec : ChangeSpec := { name := "fnExactWithoutRoom", fn := fun _ => fun
  | [d1, d2] => { results := [.lit (.bool true)], args := [d1, d2] }
  | _ => none }
def fnExactWithoutRoomRow : OpenClaim := { program := "ytgpiaeklhhacjaa", sum := "9bad0e4d1ed18010398b1e77cedf4469c78feb4460bd3600cc410a22a640e105", func := "loop.example/g01202/laws.FnExactWithoutRoom", spec := "fnExactWithoutRoom", unfollowed := true, recurses := true, apart := false }
def FnExactWithoutRoomSaid : Prop := fnExactWithoutRoomRow.holds Try.pinned (OpenSpec.ofChange fnExactWithoutRoomSpec)

/-- ITS FALSE NEIGHBOUR: 'it returns false'. Refute it at one input. -/
def fnExactWithoutRoomWrong : ChangeSpec := { name := "fnExactWithoutRoom", fn := fun _ => fun
  | [d1, d2] => { results := [.lit (.bool false)], args := [d1, d2] }
  | _ => none }
def FnExactWithoutRoomWrongFalsely : Prop := fnExactWithoutRoomRow.holds Try.pinned (OpenSpec.ofChange fnExactWithoutRoomWrong)

/-- 'laws.FnExactWithLimit': WHATEVER THE INPUT: true; the input reads as it did. -/
def fnExactWithLimitSpec : ChangeSpec := { name := "fnExactWithLimit", fn := fun _ => fun
  | [d1, d2] => { results := [.lit (.bool true)], args := [d1, d2] }
  | _ => none }
def fnExactWithLimitRow : OpenClaim := { program := "ytgpiaeklhhacjaa", sum := "9bad0e4d1ed18010398b1e77cedf4469c78feb4460bd3600cc410a22a640e105", func := "loop.example/g01202/laws.FnExactWithLimit", spec := "fnExactWithLimit", unfollowed := true, recurses := true, apart := false }
def FnExactWithLimitSaid : Prop := fnExactWithLimitRow.holds Try.pinned (OpenSpec.ofChange fnExactWithLimitSpec)

/-- ITS FALSE NEIGHBOUR: 'it returns false'. Refute it at one input. -/
def fnExactWithLimitWrong : ChangeSpec := { name := "fnExactWithLimit", fn := fun _ => fun
  | [d1, d2] => { results := [.lit (.bool false)], args := [d1, d2] }
  | _ => none }
def FnExactWithLimitWrongFalsely : Prop := fnExactWithLimitRow.holds Try.pinned (OpenSpec.ofChange fnExactWithLimitWrong)

/-- 'laws.FnExactSendAll': WHATEVER THE INPUT: true; the input reads as it did. -/
def fnExactSendAllSpec : ChangeSpec := { name := "fnExactSendAll", fn := fun _ => fun
  | [d1, d2, d3] => { results := [.lit (.bool true)], args := [d1, d2, d3] }
  | _ => none }
def fnExactSendAllRow : OpenClaim := { program := "ytgpiaeklhhacjaa", sum := "9bad0e4d1ed18010398b1e77cedf4469c78feb4460bd3600cc410a22a640e105", func := "loop.example/g01202/laws.FnExactSendAll", spec := "fnExactSendAll", unfollowed := true, recurses := true, apart := false }
def FnExactSendAllSaid : Prop := fnExactSendAllRow.holds Try.pinned (OpenSpec.ofChange fnExactSendAllSpec)

/-- ITS FALSE NEIGHBOUR: 'it returns false'. Refute it at one input. -/
def fnExactSendAllWrong : ChangeSpec := { name := "fnExactSendAll", fn := fun _ => fun
  | [d1, d2, d3] => { results := [.lit (.bool false)], args := [d1, d2, d3] }
  | _ => none }
def FnExactSendAllWrongFalsely : Prop := fnExactSendAllRow.holds Try.pinned (OpenSpec.ofChange fnExactSendAllWrong)

/-- 'laws.FnExactSendTo': WHATEVER THE INPUT: true; the input reads as it did. -/
def fnExactSendToSpec : ChangeSpec := { name := "fnExactSendTo", fn := fun _ => fun
  | [d1, d2, d3] => { results := [.lit (.bool true)], args := [d1, d2, d3] }
  | _ => none }
def fnExactSendToRow : OpenClaim := { program := "ytgpiaeklhhacjaa", sum := "9bad0e4d1ed18010398b1e77cedf4469c78feb4460bd3600cc410a22a640e105", func := "loop.example/g01202/laws.FnExactSendTo", spec := "fnExactSendTo", unfollowed := true, recurses := true, apart := false }
def FnExactSendToSaid : Prop := fnExactSendToRow.holds Try.pinned (OpenSpec.ofChange fnExactSendToSpec)

/-- ITS FALSE NEIGHBOUR: 'it returns false'. Refute it at one input. -/
def fnExactSendToWrong : ChangeSpec := { name := "fnExactSendTo", fn := fun _ => fun
  | [d1, d2, d3] => { results := [.lit (.bool false)], args := [d1, d2, d3] }
  | _ => none }
def FnExactSendToWrongFalsely : Prop := fnExactSendToRow.holds Try.pinned (OpenSpec.ofChange fnExactSendToWrong)

/-- 'laws.FnFair': WHATEVER THE INPUT: true; the input reads as it did. -/
def fnFairSpec : ChangeSpec := { name := "fnFair", fn := fun _ => fun
  | [d1, d2] => { results := [.lit (.bool true)], args := [d1, d2] }
  | _ => none }
def fnFairRow : OpenClaim := { program := "ytgpiaeklhhacjaa", sum := "9bad0e4d1ed18010398b1e77cedf4469c78feb4460bd3600cc410a22a640e105", func := "loop.example/g01202/laws.FnFair", spec := "fnFair", unfollowed := true, recurses := true, apart := false }
def FnFairSaid : Prop := fnFairRow.holds Try.pinned (OpenSpec.ofChange fnFairSpec)

/-- ITS FALSE NEIGHBOUR: 'it returns false'. Refute it at one input. -/
def fnFairWrong : ChangeSpec := { name := "fnFair", fn := fun _ => fun
  | [d1, d2] => { results := [.lit (.bool false)], args := [d1, d2] }
  | _ => none }
def FnFairWrongFalsely : Prop := fnFairRow.holds Try.pinned (OpenSpec.ofChange fnFairWrong)

/-- 'laws.FnExactRoomsIn': WHATEVER THE INPUT: true; the input reads as it did. -/
def fnExactRoomsInSpec : ChangeSpec := { name := "fnExactRoomsIn", fn := fun _ => fun
  | [d] => { results := [.lit (.bool true)], args := [d] }
  | _ => none }
def fnExactRoomsInRow : OpenClaim := { program := "ytgpiaeklhhacjaa", sum := "9bad0e4d1ed18010398b1e77cedf4469c78feb4460bd3600cc410a22a640e105", func := "loop.example/g01202/laws.FnExactRoomsIn", spec := "fnExactRoomsIn", unfollowed := true, recurses := true, apart := false }
def FnExactRoomsInSaid : Prop := fnExactRoomsInRow.holds Try.pinned (OpenSpec.ofChange fnExactRoomsInSpec)

/-- ITS FALSE NEIGHBOUR: 'it returns false'. Refute it at one input. -/
def fnExactRoomsInWrong : ChangeSpec := { name := "fnExactRoomsIn", fn := fun _ => fun
  | [d] => { results := [.lit (.bool false)], args := [d] }
  | _ => none }
def FnExactRoomsInWrongFalsely : Prop := fnExactRoomsInRow.holds Try.pinned (OpenSpec.ofChange fnExactRoomsInWrong)

/- THE SECOND FORM. 'bulk': how many values and letters a reading holds, each counted each time it is reached (what is shared counts as often as it is met; a slice's spare places count too). A statement '..UptoSaid' is the law's where the arguments, and the package variables that the reading takes, are together of bulk at most 1048576: NARROWER than '..Said'. Prove '..Said' where nothing that the law and all that it calls make is longer than what came in: it says more and counts as full. Else prove '..UptoSaid'. A law counts once. -/
mutual
def uptoBulk {H : Type} : DataW H → Nat
  | .lit (.string bytes) => bytes.length + 1
  | .lit _ => 1
  | .nil => 1
  | .ptr d => uptoBulk d + 1
  | .slice elems spare => uptoBulkAll elems + uptoBulkAll spare + 1
  | .agg parts => uptoBulkAll parts + 1
  | .iface _ d => uptoBulk d + 1
  | .map entries => uptoBulkEntries entries + 1
  | .held _ => 1
def uptoBulkAll {H : Type} : List (DataW H) → Nat
  | [] => 0
  | d :: r => uptoBulk d + uptoBulkAll r
def uptoBulkEntries {H : Type} : List (Lit × DataW H) → Nat
  | [] => 0
  | x :: r => uptoBulkEntry x + uptoBulkEntries r
def uptoBulkEntry {H : Type} : Lit × DataW H → Nat
  | (.string bytes, d) => bytes.length + uptoBulk d + 1
  | (_, d) => uptoBulk d + 1
 end
def uptoSmall : (H : Type) → List (DataW H) → Bool := fun _ ds => decide (uptoBulkAll ds ≤ 1048576)
def OpenSpec.upto (s : _root_.Go.ChangeSpec) : _root_.Go.OpenSpec := { _root_.Go.OpenSpec.ofChange s with cond := some uptoSmall }

/-- 'laws.FnExactSamePost', WHERE WHAT IT READS IS OF BULK AT MOST 1048576: true; the input reads as it did. -/
def fnExactSamePostUptoRow : OpenClaim := { program := "ytgpiaeklhhacjaa", sum := "9bad0e4d1ed18010398b1e77cedf4469c78feb4460bd3600cc410a22a640e105", func := "loop.example/g01202/laws.FnExactSamePost", spec := "fnExactSamePost", unfollowed := true, recurses := true, apart := false, narrowed := true }
def FnExactSamePostUptoSaid : Prop := fnExactSamePostUptoRow.holds Try.pinned (OpenSpec.upto fnExactSamePostSpec)

/-- 'laws.FnExactNewPost', WHERE WHAT IT READS IS OF BULK AT MOST 1048576: true; the input reads as it did. -/
def fnExactNewPostUptoRow : OpenClaim := { program := "ytgpiaeklhhacjaa", sum := "9bad0e4d1ed18010398b1e77cedf4469c78feb4460bd3600cc410a22a640e105", func := "loop.example/g01202/laws.FnExactNewPost", spec := "fnExactNewPost", unfollowed := true, recurses := true, apart := false, narrowed := true }
def FnExactNewPostUptoSaid : Prop := fnExactNewPostUptoRow.holds Try.pinned (OpenSpec.upto fnExactNewPostSpec)

/-- 'laws.FnExactValidPost', WHERE WHAT IT READS IS OF BULK AT MOST 1048576: true; the input reads as it did. -/
def fnExactValidPostUptoRow : OpenClaim := { program := "ytgpiaeklhhacjaa", sum := "9bad0e4d1ed18010398b1e77cedf4469c78feb4460bd3600cc410a22a640e105", func := "loop.example/g01202/laws.FnExactValidPost", spec := "fnExactValidPost", unfollowed := true, recurses := true, apart := false, narrowed := true }
def FnExactValidPostUptoSaid : Prop := fnExactValidPostUptoRow.holds Try.pinned (OpenSpec.upto fnExactValidPostSpec)

/-- 'laws.FnExactLoadsOf', WHERE WHAT IT READS IS OF BULK AT MOST 1048576: true; the input reads as it did. -/
def fnExactLoadsOfUptoRow : OpenClaim := { program := "ytgpiaeklhhacjaa", sum := "9bad0e4d1ed18010398b1e77cedf4469c78feb4460bd3600cc410a22a640e105", func := "loop.example/g01202/laws.FnExactLoadsOf", spec := "fnExactLoadsOf", unfollowed := true, recurses := true, apart := false, narrowed := true }
def FnExactLoadsOfUptoSaid : Prop := fnExactLoadsOfUptoRow.holds Try.pinned (OpenSpec.upto fnExactLoadsOfSpec)

/-- 'laws.FnExactTokensOf', WHERE WHAT IT READS IS OF BULK AT MOST 1048576: true; the input reads as it did. -/
def fnExactTokensOfUptoRow : OpenClaim := { program := "ytgpiaeklhhacjaa", sum := "9bad0e4d1ed18010398b1e77cedf4469c78feb4460bd3600cc410a22a640e105", func := "loop.example/g01202/laws.FnExactTokensOf", spec := "fnExactTokensOf", unfollowed := true, recurses := true, apart := false, narrowed := true }
def FnExactTokensOfUptoSaid : Prop := fnExactTokensOfUptoRow.holds Try.pinned (OpenSpec.upto fnExactTokensOfSpec)

/-- 'laws.FnHeld', WHERE WHAT IT READS IS OF BULK AT MOST 1048576: true; the input reads as it did. -/
def fnHeldUptoRow : OpenClaim := { program := "ytgpiaeklhhacjaa", sum := "9bad0e4d1ed18010398b1e77cedf4469c78feb4460bd3600cc410a22a640e105", func := "loop.example/g01202/laws.FnHeld", spec := "fnHeld", unfollowed := true, recurses := true, apart := false, narrowed := true }
def FnHeldUptoSaid : Prop := fnHeldUptoRow.holds Try.pinned (OpenSpec.upto fnHeldSpec)

/-- 'laws.FnExactWithoutRoom', WHERE WHAT IT READS IS OF BULK AT MOST 1048576: true; the input reads as it did. -/
def fnExactWithoutRoomUptoRow : OpenClaim := { program := "ytgpiaeklhhacjaa", sum := "9bad0e4d1ed18010398b1e77cedf4469c78feb4460bd3600cc410a22a640e105", func := "loop.example/g01202/laws.FnExactWithoutRoom", spec := "fnExactWithoutRoom", unfollowed := true, recurses := true, apart := false, narrowed := true }
def FnExactWithoutRoomUptoSaid : Prop := fnExactWithoutRoomUptoRow.holds Try.pinned (OpenSpec.upto fnExactWithoutRoomSpec)

/-- 'laws.FnExactWithLimit', WHERE WHAT IT READS IS OF BULK AT MOST 1048576: true; the input reads as it did. -/
def fnExactWithLimitUptoRow : OpenClaim := { program := "ytgpiaeklhhacjaa", sum := "9bad0e4d1ed18010398b1e77cedf4469c78feb4460bd3600cc410a22a640e105", func := "loop.example/g01202/laws.FnExactWithLimit", spec := "fnExactWithLimit", unfollowed := true, recurses := true, apart := false, narrowed := true }
def FnExactWithLimitUptoSaid : Prop := fnExactWithLimitUptoRow.holds Try.pinned (OpenSpec.upto fnExactWithLimitSpec)

/-- 'laws.FnExactSendAll', WHERE WHAT IT READS IS OF BULK AT MOST 1048576: true; the input reads as it did. -/
def fnExactSendAllUptoRow : OpenClaim := { program := "ytgpiaeklhhacjaa", sum := "9bad0e4d1ed18010398b1e77cedf4469c78feb4460bd3600cc410a22a640e105", func := "loop.example/g01202/laws.FnExactSendAll", spec := "fnExactSendAll", unfollowed := true, recurses := true, apart := false, narrowed := true }
def FnExactSendAllUptoSaid : Prop := fnExactSendAllUptoRow.holds Try.pinned (OpenSpec.upto fnExactSendAllSpec)

/-- 'laws.FnExactSendTo', WHERE WHAT IT READS IS OF BULK AT MOST 1048576: true; the input reads as it did. -/
def fnExactSendToUptoRow : OpenClaim := { program := "ytgpiaeklhhacjaa", sum := "9bad0e4d1ed18010398b1e77cedf4469c78feb4460bd3600cc410a22a640e105", func := "loop.example/g01202/laws.FnExactSendTo", spec := "fnExactSendTo", unfollowed := true, recurses := true, apart := false, narrowed := true }
def FnExactSendToUptoSaid : Prop := fnExactSendToUptoRow.holds Try.pinned (OpenSpec.upto fnExactSendToSpec)

/-- 'laws.FnFair', WHERE WHAT IT READS IS OF BULK AT MOST 1048576: true; the input reads as it did. -/
def fnFairUptoRow : OpenClaim := { program := "ytgpiaeklhhacjaa", sum := "9bad0e4d1ed18010398b1e77cedf4469c78feb4460bd3600cc410a22a640e105", func := "loop.example/g01202/laws.FnFair", spec := "fnFair", unfollowed := true, recurses := true, apart := false, narrowed := true }
def FnFairUptoSaid : Prop := fnFairUptoRow.holds Try.pinned (OpenSpec.upto fnFairSpec)

/-- 'laws.FnExactRoomsIn', WHERE WHAT IT READS IS OF BULK AT MOST 1048576: true; the input reads as it did. -/
def fnExactRoomsInUptoRow : OpenClaim := { program := "ytgpiaeklhhacjaa", sum := "9bad0e4d1ed18010398b1e77cedf4469c78feb4460bd3600cc410a22a640e105", func := "loop.example/g01202/laws.FnExactRoomsIn", spec := "fnExactRoomsIn", unfollowed := true, recurses := true, apart := false, narrowed := true }
def FnExactRoomsInUptoSaid : Prop := fnExactRoomsInUptoRow.holds Try.pinned (OpenSpec.upto fnExactRoomsInSpec)

end Rows
end Go.Proofs.Ytgpiaeklhhacjaa
