-- Written by a program of this session (wip/xprint: over the kit's print). Not trusted: Lean checks it.
import Derived.Test.YtallocgnpbpbhaaDoorProg
import Derived.Below
import Derived.Deep.Draws
import Derived.Deep.AppendLies
import Derived.Maps.AppendAt
import Derived.OwnWalk
import Derived.Laws.BytesArg
import Derived.Laws.MakeOwn
import Derived.Laws.OwnMore
import Derived.Deep.OwnRows
import Derived.Tactics
import Derived.Lib.ConvBytes
import Derived.Laws.Slices
import Derived.WalkKit
import Derived.KernelRfl
import Derived.RowKit3
import Derived.Deep.LoopGhost
import Derived.Deep.QuietTactic
import Derived.BigQuiet
import Derived.WideLaws
import Derived.Deep.DeepCutAuto
import Derived.Deep.CutBlock
import Derived.Deep.RegionHeld3
import Derived.Laws.Rows
import Derived.Lib.AppendStr
import Derived.ArgAppend
import Derived.Laws.IdiomCopy
import Derived.OrdersHeld
import Derived.Laws.BitsLemmas
import Derived.RowKit
import Derived.Test.YtallocgnpbpbhaaDoorXW
import Derived.Test.YtallocgnpbpbhaaDoorXS
import Derived.Test.YtallocgnpbpbhaaDoorXD
import Derived.Lib.RowBridge
import Derived.Lib.SliceRun
import Derived.Shelf.SlicesE.DeleteFunc
import Derived.Shelf.SlicesE.Compact
import Derived.RegionTactic
import Derived.BigRegion
import Derived.Outline
import Derived.Deep.RegionHeld3
import Derived.Test.YtallocgnpbpbhaaDoorWWords
import Derived.Test.YtallocgnpbpbhaaDoorWLast
import Derived.Test.YtallocgnpbpbhaaDoorWTab
import Derived.Test.YtallocgnpbpbhaaDoorWFour
import Derived.Test.YtallocgnpbpbhaaDoorWQPut
import Derived.Test.YtallocgnpbpbhaaDoorWApart
import Derived.Test.YtallocgnpbpbhaaDoorWArr
import Derived.Test.YtallocgnpbpbhaaDoorWZeros
import Derived.Test.YtallocgnpbpbhaaDoorWFoot
import Derived.Test.YtallocgnpbpbhaaDoorWKept
import Derived.Test.YtallocgnpbpbhaaDoorWShare
import Derived.Test.YtallocgnpbpbhaaDoorWN
import Derived.Test.YtallocgnpbpbhaaDoorWFootNe
import Derived.Test.YtallocgnpbpbhaaDoorWAt
import Derived.Test.YtallocgnpbpbhaaDoorWEqStruct
import Derived.Test.YtallocgnpbpbhaaDoorWRepsOne
import Derived.Test.YtallocgnpbpbhaaDoorWInv
import Derived.Test.YtallocgnpbpbhaaDoorWInvWords
import Derived.Test.YtallocgnpbpbhaaDoorWGuard
import Derived.Test.YtallocgnpbpbhaaDoorWNEv
import Derived.Test.YtallocgnpbpbhaaDoorWMore
namespace Go.Proofs.YtallocgnpbpbhaaDoor.XFnDigests
open Go.RowKit Go.Proofs.YtallocgnpbpbhaaDoorW.PrintWords Go.Proofs.YtallocgnpbpbhaaDoorW.PrintLast Go.Proofs.YtallocgnpbpbhaaDoorW.PrintMore
open Go.Proofs.YtallocgnpbpbhaaDoor.XW
open Go.Proofs.YtallocgnpbpbhaaDoor.XD
attribute [local go_sem] max2_int min2_int max_two min_two max_three min_three max_four min_four   -- for this text's walks alone
set_option linter.unusedVariables false
set_option linter.unusedSimpArgs false



def errW : Option Int → Value
  | none => .nilIface
  | some c => .iface 0 (.int .i64 c)
theorem errW_none : errW none = .nilIface := rfl
theorem errW_some (c : Int) : errW (some c) = .iface 0 (.int .i64 c) := rfl

theorem info2 : (Tryd.prog.info? 2).map (fun i => (i.zero, i.size, i.bytes)) = some (some (.int .i64 0), 1, 8) := by kernel_rfl
theorem info5 : (Tryd.prog.info? 5).map (fun i => (i.zero, i.size, i.bytes)) = some (some (.int .u8 0), 1, 1) := by kernel_rfl
theorem info9 : (Tryd.prog.info? 9).map (fun i => (i.zero, i.size, i.bytes)) = some (some (.string ⟨#[]⟩), 1, 16) := by kernel_rfl
-- the values' own types

end Go.Proofs.YtallocgnpbpbhaaDoor.XFnDigests
