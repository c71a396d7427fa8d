/-
  No cell of these rows narrows 'for every input' (looked for: loops, veiled, ifaces, maps, wideKeys, modest, calm, conditions, laid).
  DERIVED. THE GIVEN ROWS OF THIS SEAT. 12 by the template 'for every input the law returns true; each argument reads behind the call as it read before'; 0 by the template 'total and deterministic' (their statements: YtaafhggihebicaaTotals.lean).
  GIVEN WITH THE SEED: the statements are not yours to turn. If you find one false, say at which input.
  Laid BY PROGRAM, IN A SANDBOX (cutbox-rows.mjs): the forced cells as the released guide's own fill.sh prints them over the translation 91ad6dd2b43e4e6f… (all of the seat's roots in one cut). By AI agents, Wed Nov 11 2026. No macro, syntax, notation, axiom, sorry.
-/
import Derived.Test.YtaafhggihebicaaChecked
import GoSem.Claim
import GoSem.ClaimJoined
import GoSem.ClaimMapViews
import Derived.JoinedTies
import Derived.KernelRfl
namespace Go.Proofs.Ytaafhggihebicaa
/- THE CELL 'sum', in the pinned program and in every row, IS THE sha256 OF THE DUMP (.gsa) THAT YtaafhggihebicaaProg.lean LOADS. Nothing in Lean hashes anything: it is a label: what it is worth is what the hold of that sum in a sandbox is worth. -/
noncomputable def Try.pinned : Pinned := { name := "ytaafhggihebicaa", sum := "91ad6dd2b43e4e6f052c4ef3eaf052dfd77b9b9af90489202859b60ccb304ab5", checked := Try.checked }
namespace Rows
def none {H : Type} : Left H := { results := [], args := [] }

/-- 'laws.FnExactSamePresence': WHATEVER THE INPUT: true; the input reads as it did. -/
def fnExactSamePresenceSpec : ChangeSpec := { name := "fnExactSamePresence", fn := fun _ => fun
  | [d1, d2] => { results := [.lit (.bool true)], args := [d1, d2] }
  | _ => none }
def fnExactSamePresenceRow : OpenClaim := { program := "ytaafhggihebicaa", sum := "91ad6dd2b43e4e6f052c4ef3eaf052dfd77b9b9af90489202859b60ccb304ab5", func := "loop.example/g01202/laws.FnExactSamePresence", spec := "fnExactSamePresence", apart := false }
def FnExactSamePresenceSaid : Prop := fnExactSamePresenceRow.holds Try.pinned (OpenSpec.ofChange fnExactSamePresenceSpec)

/-- ITS FALSE NEIGHBOUR: 'it returns false'. Refute it at one input. -/
def fnExactSamePresenceWrong : ChangeSpec := { name := "fnExactSamePresence", fn := fun _ => fun
  | [d1, d2] => { results := [.lit (.bool false)], args := [d1, d2] }
  | _ => none }
def FnExactSamePresenceWrongFalsely : Prop := fnExactSamePresenceRow.holds Try.pinned (OpenSpec.ofChange fnExactSamePresenceWrong)

/-- 'laws.FnExactValidPresence': WHATEVER THE INPUT: true; the input reads as it did. -/
def fnExactValidPresenceSpec : ChangeSpec := { name := "fnExactValidPresence", fn := fun _ => fun
  | [d] => { results := [.lit (.bool true)], args := [d] }
  | _ => none }
def fnExactValidPresenceRow : OpenClaim := { program := "ytaafhggihebicaa", sum := "91ad6dd2b43e4e6f052c4ef3eaf052dfd77b9b9af90489202859b60ccb304ab5", func := "loop.example/g01202/laws.FnExactValidPresence", spec := "fnExactValidPresence", apart := false }
def FnExactValidPresenceSaid : Prop := fnExactValidPresenceRow.holds Try.pinned (OpenSpec.ofChange fnExactValidPresenceSpec)

/-- ITS FALSE NEIGHBOUR: 'it returns false'. Refute it at one input. -/
def fnExactValidPresenceWrong : ChangeSpec := { name := "fnExactValidPresence", fn := fun _ => fun
  | [d] => { results := [.lit (.bool false)], args := [d] }
  | _ => none }
def FnExactValidPresenceWrongFalsely : Prop := fnExactValidPresenceRow.holds Try.pinned (OpenSpec.ofChange fnExactValidPresenceWrong)

/-- 'laws.FnExactMarkOf': WHATEVER THE INPUT: true; the input reads as it did. -/
def fnExactMarkOfSpec : ChangeSpec := { name := "fnExactMarkOf", fn := fun _ => fun
  | [d1, d2] => { results := [.lit (.bool true)], args := [d1, d2] }
  | _ => none }
def fnExactMarkOfRow : OpenClaim := { program := "ytaafhggihebicaa", sum := "91ad6dd2b43e4e6f052c4ef3eaf052dfd77b9b9af90489202859b60ccb304ab5", func := "loop.example/g01202/laws.FnExactMarkOf", spec := "fnExactMarkOf", apart := false }
def FnExactMarkOfSaid : Prop := fnExactMarkOfRow.holds Try.pinned (OpenSpec.ofChange fnExactMarkOfSpec)

/-- ITS FALSE NEIGHBOUR: 'it returns false'. Refute it at one input. -/
def fnExactMarkOfWrong : ChangeSpec := { name := "fnExactMarkOf", fn := fun _ => fun
  | [d1, d2] => { results := [.lit (.bool false)], args := [d1, d2] }
  | _ => none }
def FnExactMarkOfWrongFalsely : Prop := fnExactMarkOfRow.holds Try.pinned (OpenSpec.ofChange fnExactMarkOfWrong)

/-- 'laws.FnExactHaveRead': WHATEVER THE INPUT: true; the input reads as it did. -/
def fnExactHaveReadSpec : ChangeSpec := { name := "fnExactHaveRead", fn := fun _ => fun
  | [d1, d2] => { results := [.lit (.bool true)], args := [d1, d2] }
  | _ => none }
def fnExactHaveReadRow : OpenClaim := { program := "ytaafhggihebicaa", sum := "91ad6dd2b43e4e6f052c4ef3eaf052dfd77b9b9af90489202859b60ccb304ab5", func := "loop.example/g01202/laws.FnExactHaveRead", spec := "fnExactHaveRead", apart := false }
def FnExactHaveReadSaid : Prop := fnExactHaveReadRow.holds Try.pinned (OpenSpec.ofChange fnExactHaveReadSpec)

/-- ITS FALSE NEIGHBOUR: 'it returns false'. Refute it at one input. -/
def fnExactHaveReadWrong : ChangeSpec := { name := "fnExactHaveRead", fn := fun _ => fun
  | [d1, d2] => { results := [.lit (.bool false)], args := [d1, d2] }
  | _ => none }
def FnExactHaveReadWrongFalsely : Prop := fnExactHaveReadRow.holds Try.pinned (OpenSpec.ofChange fnExactHaveReadWrong)

/-- 'laws.FnExactPresentAt': WHATEVER THE INPUT: true; the input reads as it did. -/
def fnExactPresentAtSpec : ChangeSpec := { name := "fnExactPresentAt", fn := fun _ => fun
  | [d1, d2] => { results := [.lit (.bool true)], args := [d1, d2] }
  | _ => none }
def fnExactPresentAtRow : OpenClaim := { program := "ytaafhggihebicaa", sum := "91ad6dd2b43e4e6f052c4ef3eaf052dfd77b9b9af90489202859b60ccb304ab5", func := "loop.example/g01202/laws.FnExactPresentAt", spec := "fnExactPresentAt", apart := false }
def FnExactPresentAtSaid : Prop := fnExactPresentAtRow.holds Try.pinned (OpenSpec.ofChange fnExactPresentAtSpec)

/-- ITS FALSE NEIGHBOUR: 'it returns false'. Refute it at one input. -/
def fnExactPresentAtWrong : ChangeSpec := { name := "fnExactPresentAt", fn := fun _ => fun
  | [d1, d2] => { results := [.lit (.bool false)], args := [d1, d2] }
  | _ => none }
def FnExactPresentAtWrongFalsely : Prop := fnExactPresentAtRow.holds Try.pinned (OpenSpec.ofChange fnExactPresentAtWrong)

/-- 'laws.FnExactNextChange': WHATEVER THE INPUT: true; the input reads as it did. -/
def fnExactNextChangeSpec : ChangeSpec := { name := "fnExactNextChange", fn := fun _ => fun
  | [d1, d2] => { results := [.lit (.bool true)], args := [d1, d2] }
  | _ => none }
def fnExactNextChangeRow : OpenClaim := { program := "ytaafhggihebicaa", sum := "91ad6dd2b43e4e6f052c4ef3eaf052dfd77b9b9af90489202859b60ccb304ab5", func := "loop.example/g01202/laws.FnExactNextChange", spec := "fnExactNextChange", unfollowed := true, recurses := true, apart := false }
def FnExactNextChangeSaid : Prop := fnExactNextChangeRow.holds Try.pinned (OpenSpec.ofChange fnExactNextChangeSpec)

/-- ITS FALSE NEIGHBOUR: 'it returns false'. Refute it at one input. -/
def fnExactNextChangeWrong : ChangeSpec := { name := "fnExactNextChange", fn := fun _ => fun
  | [d1, d2] => { results := [.lit (.bool false)], args := [d1, d2] }
  | _ => none }
def FnExactNextChangeWrongFalsely : Prop := fnExactNextChangeRow.holds Try.pinned (OpenSpec.ofChange fnExactNextChangeWrong)

/-- 'laws.FnExactTypingAt': WHATEVER THE INPUT: true; the input reads as it did. -/
def fnExactTypingAtSpec : ChangeSpec := { name := "fnExactTypingAt", fn := fun _ => fun
  | [d1, d2] => { results := [.lit (.bool true)], args := [d1, d2] }
  | _ => none }
def fnExactTypingAtRow : OpenClaim := { program := "ytaafhggihebicaa", sum := "91ad6dd2b43e4e6f052c4ef3eaf052dfd77b9b9af90489202859b60ccb304ab5", func := "loop.example/g01202/laws.FnExactTypingAt", spec := "fnExactTypingAt", unfollowed := true, recurses := true, apart := false }
def FnExactTypingAtSaid : Prop := fnExactTypingAtRow.holds Try.pinned (OpenSpec.ofChange fnExactTypingAtSpec)

/-- ITS FALSE NEIGHBOUR: 'it returns false'. Refute it at one input. -/
def fnExactTypingAtWrong : ChangeSpec := { name := "fnExactTypingAt", fn := fun _ => fun
  | [d1, d2] => { results := [.lit (.bool false)], args := [d1, d2] }
  | _ => none }
def FnExactTypingAtWrongFalsely : Prop := fnExactTypingAtRow.holds Try.pinned (OpenSpec.ofChange fnExactTypingAtWrong)

/-- 'laws.FnExactValidMessage': WHATEVER THE INPUT: true; the input reads as it did. -/
def fnExactValidMessageSpec : ChangeSpec := { name := "fnExactValidMessage", fn := fun _ => fun
  | [d] => { results := [.lit (.bool true)], args := [d] }
  | _ => none }
def fnExactValidMessageRow : OpenClaim := { program := "ytaafhggihebicaa", sum := "91ad6dd2b43e4e6f052c4ef3eaf052dfd77b9b9af90489202859b60ccb304ab5", func := "loop.example/g01202/laws.FnExactValidMessage", spec := "fnExactValidMessage", unfollowed := true, recurses := true, apart := false }
def FnExactValidMessageSaid : Prop := fnExactValidMessageRow.holds Try.pinned (OpenSpec.ofChange fnExactValidMessageSpec)

/-- ITS FALSE NEIGHBOUR: 'it returns false'. Refute it at one input. -/
def fnExactValidMessageWrong : ChangeSpec := { name := "fnExactValidMessage", fn := fun _ => fun
  | [d] => { results := [.lit (.bool false)], args := [d] }
  | _ => none }
def FnExactValidMessageWrongFalsely : Prop := fnExactValidMessageRow.holds Try.pinned (OpenSpec.ofChange fnExactValidMessageWrong)

/-- 'laws.FnExactSameLog': WHATEVER THE INPUT: true; the input reads as it did. -/
def fnExactSameLogSpec : ChangeSpec := { name := "fnExactSameLog", fn := fun _ => fun
  | [d1, d2] => { results := [.lit (.bool true)], args := [d1, d2] }
  | _ => none }
def fnExactSameLogRow : OpenClaim := { program := "ytaafhggihebicaa", sum := "91ad6dd2b43e4e6f052c4ef3eaf052dfd77b9b9af90489202859b60ccb304ab5", func := "loop.example/g01202/laws.FnExactSameLog", spec := "fnExactSameLog", unfollowed := true, recurses := true, apart := false }
def FnExactSameLogSaid : Prop := fnExactSameLogRow.holds Try.pinned (OpenSpec.ofChange fnExactSameLogSpec)

/-- ITS FALSE NEIGHBOUR: 'it returns false'. Refute it at one input. -/
def fnExactSameLogWrong : ChangeSpec := { name := "fnExactSameLog", fn := fun _ => fun
  | [d1, d2] => { results := [.lit (.bool false)], args := [d1, d2] }
  | _ => none }
def FnExactSameLogWrongFalsely : Prop := fnExactSameLogRow.holds Try.pinned (OpenSpec.ofChange fnExactSameLogWrong)

/-- 'laws.FnExactValidLog': WHATEVER THE INPUT: true; the input reads as it did. -/
def fnExactValidLogSpec : ChangeSpec := { name := "fnExactValidLog", fn := fun _ => fun
  | [d] => { results := [.lit (.bool true)], args := [d] }
  | _ => none }
def fnExactValidLogRow : OpenClaim := { program := "ytaafhggihebicaa", sum := "91ad6dd2b43e4e6f052c4ef3eaf052dfd77b9b9af90489202859b60ccb304ab5", func := "loop.example/g01202/laws.FnExactValidLog", spec := "fnExactValidLog", unfollowed := true, recurses := true, apart := false }
def FnExactValidLogSaid : Prop := fnExactValidLogRow.holds Try.pinned (OpenSpec.ofChange fnExactValidLogSpec)

/-- ITS FALSE NEIGHBOUR: 'it returns false'. Refute it at one input. -/
def fnExactValidLogWrong : ChangeSpec := { name := "fnExactValidLog", fn := fun _ => fun
  | [d] => { results := [.lit (.bool false)], args := [d] }
  | _ => none }
def FnExactValidLogWrongFalsely : Prop := fnExactValidLogRow.holds Try.pinned (OpenSpec.ofChange fnExactValidLogWrong)

/-- 'laws.FnExactSameRoom': WHATEVER THE INPUT: true; the input reads as it did. -/
def fnExactSameRoomSpec : ChangeSpec := { name := "fnExactSameRoom", fn := fun _ => fun
  | [d1, d2] => { results := [.lit (.bool true)], args := [d1, d2] }
  | _ => none }
def fnExactSameRoomRow : OpenClaim := { program := "ytaafhggihebicaa", sum := "91ad6dd2b43e4e6f052c4ef3eaf052dfd77b9b9af90489202859b60ccb304ab5", func := "loop.example/g01202/laws.FnExactSameRoom", spec := "fnExactSameRoom", apart := false }
def FnExactSameRoomSaid : Prop := fnExactSameRoomRow.holds Try.pinned (OpenSpec.ofChange fnExactSameRoomSpec)

/-- ITS FALSE NEIGHBOUR: 'it returns false'. Refute it at one input. -/
def fnExactSameRoomWrong : ChangeSpec := { name := "fnExactSameRoom", fn := fun _ => fun
  | [d1, d2] => { results := [.lit (.bool false)], args := [d1, d2] }
  | _ => none }
def FnExactSameRoomWrongFalsely : Prop := fnExactSameRoomRow.holds Try.pinned (OpenSpec.ofChange fnExactSameRoomWrong)

/-- 'laws.FnExactReadHex': WHATEVER THE INPUT: true; the input reads as it did. -/
def fnExactReadHexSpec : ChangeSpec := { name := "fnExactReadHex", fn := fun _ => fun
  | [d] => { results := [.lit (.bool true)], args := [d] }
  | _ => none }
def fnExactReadHexRow : OpenClaim := { program := "ytaafhggihebicaa", sum := "91ad6dd2b43e4e6f052c4ef3eaf052dfd77b9b9af90489202859b60ccb304ab5", func := "loop.example/g01202/laws.FnExactReadHex", spec := "fnExactReadHex", inPlace := ["internal/bytealg.IndexByteString"], apart := false }
def FnExactReadHexSaid : Prop := fnExactReadHexRow.holds Try.pinned (OpenSpec.ofChange fnExactReadHexSpec)

/-- ITS FALSE NEIGHBOUR: 'it returns false'. Refute it at one input. -/
def fnExactReadHexWrong : ChangeSpec := { name := "fnExactReadHex", fn := fun _ => fun
  | [d] => { results := [.lit (.bool false)], args := [d] }
  | _ => none }
def FnExactReadHexWrongFalsely : Prop := fnExactReadHexRow.holds Try.pinned (OpenSpec.ofChange fnExactReadHexWrong)

/- THE SECOND FORM. 'bulk': how many values and letters a reading holds, each counted each time it is reached (what is shared counts as often as it is met; a slice's spare places count too). A statement '..UptoSaid' is the law's where the arguments, and the package variables that the reading takes, are together of bulk at most 1048576: NARROWER than '..Said'. Prove '..Said' where nothing that the law and all that it calls make is longer than what came in: it says more and counts as full. Else prove '..UptoSaid'. A law counts once. -/
mutual
def uptoBulk {H : Type} : DataW H → Nat
  | .lit (.string bytes) => bytes.length + 1
  | .lit _ => 1
  | .nil => 1
  | .ptr d => uptoBulk d + 1
  | .slice elems spare => uptoBulkAll elems + uptoBulkAll spare + 1
  | .agg parts => uptoBulkAll parts + 1
  | .iface _ d => uptoBulk d + 1
  | .map entries => uptoBulkEntries entries + 1
  | .held _ => 1
def uptoBulkAll {H : Type} : List (DataW H) → Nat
  | [] => 0
  | d :: r => uptoBulk d + uptoBulkAll r
def uptoBulkEntries {H : Type} : List (Lit × DataW H) → Nat
  | [] => 0
  | x :: r => uptoBulkEntry x + uptoBulkEntries r
def uptoBulkEntry {H : Type} : Lit × DataW H → Nat
  | (.string bytes, d) => bytes.length + uptoBulk d + 1
  | (_, d) => uptoBulk d + 1
 end
def uptoSmall : (H : Type) → List (DataW H) → Bool := fun _ ds => decide (uptoBulkAll ds ≤ 1048576)
def OpenSpec.upto (s : _root_.Go.ChangeSpec) : _root_.Go.OpenSpec := { _root_.Go.OpenSpec.ofChange s with cond := some uptoSmall }

/-- 'laws.FnExactSamePresence', WHERE WHAT IT READS IS OF BULK AT MOST 1048576: true; the input reads as it did. -/
def fnExactSamePresenceUptoRow : OpenClaim := { program := "ytaafhggihebicaa", sum := "91ad6dd2b43e4e6f052c4ef3eaf052dfd77b9b9af90489202859b60ccb304ab5", func := "loop.example/g01202/laws.FnExactSamePresence", spec := "fnExactSamePresence", apart := false, narrowed := true }
def FnExactSamePresenceUptoSaid : Prop := fnExactSamePresenceUptoRow.holds Try.pinned (OpenSpec.upto fnExactSamePresenceSpec)

/-- 'laws.FnExactValidPresence', WHERE WHAT IT READS IS OF BULK AT MOST 1048576: true; the input reads as it did. -/
def fnExactValidPresenceUptoRow : OpenClaim := { program := "ytaafhggihebicaa", sum := "91ad6dd2b43e4e6f052c4ef3eaf052dfd77b9b9af90489202859b60ccb304ab5", func := "loop.example/g01202/laws.FnExactValidPresence", spec := "fnExactValidPresence", apart := false, narrowed := true }
def FnExactValidPresenceUptoSaid : Prop := fnExactValidPresenceUptoRow.holds Try.pinned (OpenSpec.upto fnExactValidPresenceSpec)

/-- 'laws.FnExactMarkOf', WHERE WHAT IT READS IS OF BULK AT MOST 1048576: true; the input reads as it did. -/
def fnExactMarkOfUptoRow : OpenClaim := { program := "ytaafhggihebicaa", sum := "91ad6dd2b43e4e6f052c4ef3eaf052dfd77b9b9af90489202859b60ccb304ab5", func := "loop.example/g01202/laws.FnExactMarkOf", spec := "fnExactMarkOf", apart := false, narrowed := true }
def FnExactMarkOfUptoSaid : Prop := fnExactMarkOfUptoRow.holds Try.pinned (OpenSpec.upto fnExactMarkOfSpec)

/-- 'laws.FnExactHaveRead', WHERE WHAT IT READS IS OF BULK AT MOST 1048576: true; the input reads as it did. -/
def fnExactHaveReadUptoRow : OpenClaim := { program := "ytaafhggihebicaa", sum := "91ad6dd2b43e4e6f052c4ef3eaf052dfd77b9b9af90489202859b60ccb304ab5", func := "loop.example/g01202/laws.FnExactHaveRead", spec := "fnExactHaveRead", apart := false, narrowed := true }
def FnExactHaveReadUptoSaid : Prop := fnExactHaveReadUptoRow.holds Try.pinned (OpenSpec.upto fnExactHaveReadSpec)

/-- 'laws.FnExactPresentAt', WHERE WHAT IT READS IS OF BULK AT MOST 1048576: true; the input reads as it did. -/
def fnExactPresentAtUptoRow : OpenClaim := { program := "ytaafhggihebicaa", sum := "91ad6dd2b43e4e6f052c4ef3eaf052dfd77b9b9af90489202859b60ccb304ab5", func := "loop.example/g01202/laws.FnExactPresentAt", spec := "fnExactPresentAt", apart := false, narrowed := true }
def FnExactPresentAtUptoSaid : Prop := fnExactPresentAtUptoRow.holds Try.pinned (OpenSpec.upto fnExactPresentAtSpec)

/-- 'laws.FnExactNextChange', WHERE WHAT IT READS IS OF BULK AT MOST 1048576: true; the input reads as it did. -/
def fnExactNextChangeUptoRow : OpenClaim := { program := "ytaafhggihebicaa", sum := "91ad6dd2b43e4e6f052c4ef3eaf052dfd77b9b9af90489202859b60ccb304ab5", func := "loop.example/g01202/laws.FnExactNextChange", spec := "fnExactNextChange", unfollowed := true, recurses := true, apart := false, narrowed := true }
def FnExactNextChangeUptoSaid : Prop := fnExactNextChangeUptoRow.holds Try.pinned (OpenSpec.upto fnExactNextChangeSpec)

/-- 'laws.FnExactTypingAt', WHERE WHAT IT READS IS OF BULK AT MOST 1048576: true; the input reads as it did. -/
def fnExactTypingAtUptoRow : OpenClaim := { program := "ytaafhggihebicaa", sum := "91ad6dd2b43e4e6f052c4ef3eaf052dfd77b9b9af90489202859b60ccb304ab5", func := "loop.example/g01202/laws.FnExactTypingAt", spec := "fnExactTypingAt", unfollowed := true, recurses := true, apart := false, narrowed := true }
def FnExactTypingAtUptoSaid : Prop := fnExactTypingAtUptoRow.holds Try.pinned (OpenSpec.upto fnExactTypingAtSpec)

/-- 'laws.FnExactValidMessage', WHERE WHAT IT READS IS OF BULK AT MOST 1048576: true; the input reads as it did. -/
def fnExactValidMessageUptoRow : OpenClaim := { program := "ytaafhggihebicaa", sum := "91ad6dd2b43e4e6f052c4ef3eaf052dfd77b9b9af90489202859b60ccb304ab5", func := "loop.example/g01202/laws.FnExactValidMessage", spec := "fnExactValidMessage", unfollowed := true, recurses := true, apart := false, narrowed := true }
def FnExactValidMessageUptoSaid : Prop := fnExactValidMessageUptoRow.holds Try.pinned (OpenSpec.upto fnExactValidMessageSpec)

/-- 'laws.FnExactSameLog', WHERE WHAT IT READS IS OF BULK AT MOST 1048576: true; the input reads as it did. -/
def fnExactSameLogUptoRow : OpenClaim := { program := "ytaafhggihebicaa", sum := "91ad6dd2b43e4e6f052c4ef3eaf052dfd77b9b9af90489202859b60ccb304ab5", func := "loop.example/g01202/laws.FnExactSameLog", spec := "fnExactSameLog", unfollowed := true, recurses := true, apart := false, narrowed := true }
def FnExactSameLogUptoSaid : Prop := fnExactSameLogUptoRow.holds Try.pinned (OpenSpec.upto fnExactSameLogSpec)

/-- 'laws.FnExactValidLog', WHERE WHAT IT READS IS OF BULK AT MOST 1048576: true; the input reads as it did. -/
def fnExactValidLogUptoRow : OpenClaim := { program := "ytaafhggihebicaa", sum := "91ad6dd2b43e4e6f052c4ef3eaf052dfd77b9b9af90489202859b60ccb304ab5", func := "loop.example/g01202/laws.FnExactValidLog", spec := "fnExactValidLog", unfollowed := true, recurses := true, apart := false, narrowed := true }
def FnExactValidLogUptoSaid : Prop := fnExactValidLogUptoRow.holds Try.pinned (OpenSpec.upto fnExactValidLogSpec)

/-- 'laws.FnExactSameRoom', WHERE WHAT IT READS IS OF BULK AT MOST 1048576: true; the input reads as it did. -/
def fnExactSameRoomUptoRow : OpenClaim := { program := "ytaafhggihebicaa", sum := "91ad6dd2b43e4e6f052c4ef3eaf052dfd77b9b9af90489202859b60ccb304ab5", func := "loop.example/g01202/laws.FnExactSameRoom", spec := "fnExactSameRoom", apart := false, narrowed := true }
def FnExactSameRoomUptoSaid : Prop := fnExactSameRoomUptoRow.holds Try.pinned (OpenSpec.upto fnExactSameRoomSpec)

/-- 'laws.FnExactReadHex', WHERE WHAT IT READS IS OF BULK AT MOST 1048576: true; the input reads as it did. -/
def fnExactReadHexUptoRow : OpenClaim := { program := "ytaafhggihebicaa", sum := "91ad6dd2b43e4e6f052c4ef3eaf052dfd77b9b9af90489202859b60ccb304ab5", func := "loop.example/g01202/laws.FnExactReadHex", spec := "fnExactReadHex", inPlace := ["internal/bytealg.IndexByteString"], apart := false, narrowed := true }
def FnExactReadHexUptoSaid : Prop := fnExactReadHexUptoRow.holds Try.pinned (OpenSpec.upto fnExactReadHexSpec)

end Rows
end Go.Proofs.Ytaafhggihebicaa
