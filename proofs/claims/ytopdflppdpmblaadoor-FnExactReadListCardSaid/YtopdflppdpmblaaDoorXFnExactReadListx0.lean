-- Written by a program of this session (wip/xprint: over the kit's print). Not trusted: Lean checks it.
import Derived.Test.YtopdflppdpmblaaDoorProg
import Derived.Below
import Derived.Deep.Draws
import Derived.Deep.AppendLies
import Derived.Maps.AppendAt
import Derived.OwnWalk
import Derived.Laws.BytesArg
import Derived.Laws.MakeOwn
import Derived.Laws.OwnMore
import Derived.Deep.OwnRows
import Derived.Tactics
import Derived.Lib.ConvBytes
import Derived.Laws.Slices
import Derived.WalkKit
import Derived.KernelRfl
import Derived.RowKit3
import Derived.Deep.LoopGhost
import Derived.Deep.QuietTactic
import Derived.BigQuiet
import Derived.WideLaws
import Derived.Deep.DeepCutAuto
import Derived.Deep.CutBlock
import Derived.Deep.RegionHeld3
import Derived.Laws.Rows
import Derived.Lib.AppendStr
import Derived.ArgAppend
import Derived.Laws.IdiomCopy
import Derived.OrdersHeld
import Derived.Laws.BitsLemmas
import Derived.RowKit
import Derived.Test.YtopdflppdpmblaaDoorXW
import Derived.Test.YtopdflppdpmblaaDoorXS
import Derived.Test.YtopdflppdpmblaaDoorXD
import Derived.Lib.RowBridge
import Derived.Lib.SliceRun
import Derived.Test.YtopdflppdpmblaaDoorWWords
import Derived.Test.YtopdflppdpmblaaDoorWLast
import Derived.Test.YtopdflppdpmblaaDoorWTab
import Derived.Test.YtopdflppdpmblaaDoorWFour
import Derived.Test.YtopdflppdpmblaaDoorWQPut
import Derived.Test.YtopdflppdpmblaaDoorWApart
import Derived.Test.YtopdflppdpmblaaDoorWArr
import Derived.Test.YtopdflppdpmblaaDoorWZeros
import Derived.Test.YtopdflppdpmblaaDoorWFoot
import Derived.Test.YtopdflppdpmblaaDoorWKept
import Derived.Test.YtopdflppdpmblaaDoorWShare
import Derived.Test.YtopdflppdpmblaaDoorWN
import Derived.Test.YtopdflppdpmblaaDoorWFootNe
import Derived.Test.YtopdflppdpmblaaDoorWAt
import Derived.Test.YtopdflppdpmblaaDoorWEqStruct
import Derived.Test.YtopdflppdpmblaaDoorWRepsOne
import Derived.Test.YtopdflppdpmblaaDoorWInv
import Derived.Test.YtopdflppdpmblaaDoorWInvWords
import Derived.Test.YtopdflppdpmblaaDoorWGuard
import Derived.Test.YtopdflppdpmblaaDoorWNEv
import Derived.Test.YtopdflppdpmblaaDoorWMore
namespace Go.Proofs.YtopdflppdpmblaaDoor.XFnExactReadList
open Go.RowKit Go.Proofs.YtopdflppdpmblaaDoorW.PrintWords Go.Proofs.YtopdflppdpmblaaDoorW.PrintLast Go.Proofs.YtopdflppdpmblaaDoorW.PrintMore
open Go.Proofs.YtopdflppdpmblaaDoor.XW
open Go.Proofs.YtopdflppdpmblaaDoor.XD
attribute [local go_sem] max2_int min2_int max_two min_two max_three min_three max_four min_four   -- for this text's walks alone
set_option linter.unusedVariables false
set_option linter.unusedSimpArgs false



def errW : Option Int → Value
  | none => .nilIface
  | some c => .iface 0 (.int .i64 c)
theorem errW_none : errW none = .nilIface := rfl
theorem errW_some (c : Int) : errW (some c) = .iface 0 (.int .i64 c) := rfl

theorem info2 : (Tryd.prog.info? 2).map (fun i => (i.zero, i.size, i.bytes)) = some (some (.int .i64 0), 1, 8) := by kernel_rfl
theorem info5 : (Tryd.prog.info? 5).map (fun i => (i.zero, i.size, i.bytes)) = some (some (.int .u8 0), 1, 1) := by kernel_rfl
theorem info9 : (Tryd.prog.info? 9).map (fun i => (i.zero, i.size, i.bytes)) = some (some (.string ⟨#[]⟩), 1, 16) := by kernel_rfl
-- the values' own types

end Go.Proofs.YtopdflppdpmblaaDoor.XFnExactReadList
