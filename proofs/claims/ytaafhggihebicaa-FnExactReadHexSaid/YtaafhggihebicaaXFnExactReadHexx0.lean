-- Written by a program of this session (wip/xprint: over the kit's print). Not trusted: Lean checks it.
import Derived.Test.YtaafhggihebicaaProg
import Derived.Below
import Derived.Deep.Draws
import Derived.Deep.AppendLies
import Derived.Maps.AppendAt
import Derived.OwnWalk
import Derived.Laws.BytesArg
import Derived.Laws.MakeOwn
import Derived.Laws.OwnMore
import Derived.Deep.OwnRows
import Derived.Tactics
import Derived.Lib.ConvBytes
import Derived.Laws.Slices
import Derived.WalkKit
import Derived.KernelRfl
import Derived.RowKit3
import Derived.Deep.LoopGhost
import Derived.Deep.QuietTactic
import Derived.BigQuiet
import Derived.WideLaws
import Derived.Deep.DeepCutAuto
import Derived.Deep.CutBlock
import Derived.Deep.RegionHeld3
import Derived.Laws.Rows
import Derived.Lib.AppendStr
import Derived.ArgAppend
import Derived.Laws.IdiomCopy
import Derived.OrdersHeld
import Derived.Laws.BitsLemmas
import Derived.RowKit
import Derived.Test.YtaafhggihebicaaXW
import Derived.Test.YtaafhggihebicaaXS
import Derived.Test.YtaafhggihebicaaSH
import Derived.Lib.RowBridge
import Derived.Lib.SliceRun
import Derived.Shelf.SlicesE.DeleteFunc
import Derived.Shelf.SlicesE.Compact
import Derived.Test.YtaafhggihebicaaWWords
import Derived.Test.YtaafhggihebicaaWLast
import Derived.Test.YtaafhggihebicaaWTab
import Derived.Test.YtaafhggihebicaaWFour
import Derived.Test.YtaafhggihebicaaWQPut
import Derived.Test.YtaafhggihebicaaWApart
import Derived.Test.YtaafhggihebicaaWArr
import Derived.Test.YtaafhggihebicaaWZeros
import Derived.Test.YtaafhggihebicaaWFoot
import Derived.Test.YtaafhggihebicaaWKept
import Derived.Test.YtaafhggihebicaaWShare
import Derived.Test.YtaafhggihebicaaWN
import Derived.Test.YtaafhggihebicaaWFootNe
import Derived.Test.YtaafhggihebicaaWAt
import Derived.Test.YtaafhggihebicaaWEqStruct
import Derived.Test.YtaafhggihebicaaWRepsOne
import Derived.Test.YtaafhggihebicaaWInv
import Derived.Test.YtaafhggihebicaaWInvWords
import Derived.Test.YtaafhggihebicaaWGuard
import Derived.Test.YtaafhggihebicaaWNEv
import Derived.Test.YtaafhggihebicaaWMore
namespace Go.Proofs.Ytaafhggihebicaa.XFnExactReadHex
open Go.RowKit Go.Proofs.YtaafhggihebicaaW.PrintWords Go.Proofs.YtaafhggihebicaaW.PrintLast Go.Proofs.YtaafhggihebicaaW.PrintMore
open Go.Proofs.Ytaafhggihebicaa.XW
attribute [local go_sem] max2_int min2_int max_two min_two max_three min_three max_four min_four   -- for this text's walks alone
set_option linter.unusedVariables false
set_option linter.unusedSimpArgs false



def errW : Option Int → Value
  | none => .nilIface
  | some c => .iface 0 (.int .i64 c)
theorem errW_none : errW none = .nilIface := rfl
theorem errW_some (c : Int) : errW (some c) = .iface 0 (.int .i64 c) := rfl

theorem info5 : (Try.prog.info? 5).map (fun i => (i.zero, i.size, i.bytes)) = some (some (.int .u8 0), 1, 1) := by kernel_rfl
-- the values' own types

end Go.Proofs.Ytaafhggihebicaa.XFnExactReadHex
