-- Written by a program of this session (wip/xprint: over the kit's print). Not trusted: Lean checks it.
import Derived.Test.YtopdflppdpmblaaProg
import Derived.Below
import Derived.Deep.Draws
import Derived.Deep.AppendLies
import Derived.Maps.AppendAt
import Derived.OwnWalk
import Derived.Laws.BytesArg
import Derived.Laws.MakeOwn
import Derived.Laws.OwnMore
import Derived.Deep.OwnRows
import Derived.Tactics
import Derived.Lib.ConvBytes
import Derived.Laws.Slices
import Derived.WalkKit
import Derived.KernelRfl
import Derived.RowKit3
import Derived.Deep.LoopGhost
import Derived.Deep.QuietTactic
import Derived.BigQuiet
import Derived.WideLaws
import Derived.Deep.DeepCutAuto
import Derived.Deep.CutBlock
import Derived.Deep.RegionHeld3
import Derived.Laws.Rows
import Derived.Lib.AppendStr
import Derived.ArgAppend
import Derived.Laws.IdiomCopy
import Derived.OrdersHeld
import Derived.Laws.BitsLemmas
import Derived.RowKit
import Derived.Test.YtopdflppdpmblaaXW
import Derived.Test.YtopdflppdpmblaaXS
import Derived.Test.YtopdflppdpmblaaSH
import Derived.Lib.RowBridge
import Derived.Lib.SliceRun
import Derived.Shelf.SlicesE.DeleteFunc
import Derived.Shelf.SlicesE.Compact
import Derived.RegionTactic
import Derived.BigRegion
import Derived.Outline
import Derived.Test.YtopdflppdpmblaaWWords
import Derived.Test.YtopdflppdpmblaaWLast
import Derived.Test.YtopdflppdpmblaaWTab
import Derived.Test.YtopdflppdpmblaaWFour
import Derived.Test.YtopdflppdpmblaaWQPut
import Derived.Test.YtopdflppdpmblaaWApart
import Derived.Test.YtopdflppdpmblaaWArr
import Derived.Test.YtopdflppdpmblaaWZeros
import Derived.Test.YtopdflppdpmblaaWFoot
import Derived.Test.YtopdflppdpmblaaWKept
import Derived.Test.YtopdflppdpmblaaWShare
import Derived.Test.YtopdflppdpmblaaWN
import Derived.Test.YtopdflppdpmblaaWFootNe
import Derived.Test.YtopdflppdpmblaaWAt
import Derived.Test.YtopdflppdpmblaaWEqStruct
import Derived.Test.YtopdflppdpmblaaWRepsOne
import Derived.Test.YtopdflppdpmblaaWInv
import Derived.Test.YtopdflppdpmblaaWInvWords
import Derived.Test.YtopdflppdpmblaaWGuard
import Derived.Test.YtopdflppdpmblaaWNEv
import Derived.Test.YtopdflppdpmblaaWMore
namespace Go.Proofs.Ytopdflppdpmblaa.XFnExactChainOf
open Go.RowKit Go.Proofs.YtopdflppdpmblaaW.PrintWords Go.Proofs.YtopdflppdpmblaaW.PrintLast Go.Proofs.YtopdflppdpmblaaW.PrintMore
open Go.Proofs.Ytopdflppdpmblaa.XW
attribute [local go_sem] max2_int min2_int max_two min_two max_three min_three max_four min_four   -- for this text's walks alone
set_option linter.unusedVariables false
set_option linter.unusedSimpArgs false



def errW : Option Int → Value
  | none => .nilIface
  | some c => .iface 0 (.int .i64 c)
theorem errW_none : errW none = .nilIface := rfl
theorem errW_some (c : Int) : errW (some c) = .iface 0 (.int .i64 c) := rfl

theorem info2 : (Try.prog.info? 2).map (fun i => (i.zero, i.size, i.bytes)) = some (some (.int .i64 0), 1, 8) := by kernel_rfl
theorem info5 : (Try.prog.info? 5).map (fun i => (i.zero, i.size, i.bytes)) = some (some (.int .u8 0), 1, 1) := by kernel_rfl
theorem info9 : (Try.prog.info? 9).map (fun i => (i.zero, i.size, i.bytes)) = some (some (.string ⟨#[]⟩), 1, 16) := by kernel_rfl
-- the values' own types

end Go.Proofs.Ytopdflppdpmblaa.XFnExactChainOf
