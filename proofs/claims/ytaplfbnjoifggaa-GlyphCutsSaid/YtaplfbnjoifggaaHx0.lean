-- written by hp.py for this claim, out of the kit's printer and texts of my own
import Derived.Test.YtaplfbnjoifggaaProg
import Derived.Below
import Derived.Deep.Draws
import Derived.Deep.AppendLies
import Derived.Maps.AppendAt
import Derived.OwnWalk
import Derived.Laws.BytesArg
import Derived.Laws.MakeOwn
import Derived.Laws.OwnMore
import Derived.Deep.OwnRows
import Derived.Tactics
import Derived.Lib.ConvBytes
import Derived.Laws.Slices
import Derived.WalkKit
import Derived.KernelRfl
import Derived.RowKit3
import Derived.Deep.LoopGhost
import Derived.Deep.QuietTactic
import Derived.BigQuiet
import Derived.WideLaws
import Derived.Deep.DeepCutAuto
import Derived.Deep.CutBlock
import Derived.Deep.RegionHeld3
import Derived.Laws.Rows
import Derived.Lib.AppendStr
import Derived.ArgAppend
import Derived.Laws.IdiomCopy
import Derived.OrdersHeld
import Derived.Laws.BitsLemmas
import Derived.RowKit
import Derived.Test.YtaplfbnjoifggaaWWords
import Derived.Test.YtaplfbnjoifggaaWLast
import Derived.Test.YtaplfbnjoifggaaWTab
import Derived.Test.YtaplfbnjoifggaaWFour
import Derived.Test.YtaplfbnjoifggaaWQPut
import Derived.Test.YtaplfbnjoifggaaWApart
import Derived.Test.YtaplfbnjoifggaaWArr
import Derived.Test.YtaplfbnjoifggaaWZeros
import Derived.Test.YtaplfbnjoifggaaWFoot
import Derived.Test.YtaplfbnjoifggaaWKept
import Derived.Test.YtaplfbnjoifggaaWShare
import Derived.Test.YtaplfbnjoifggaaWN
import Derived.Test.YtaplfbnjoifggaaWFootNe
import Derived.Test.YtaplfbnjoifggaaWAt
import Derived.Test.YtaplfbnjoifggaaWEqStruct
import Derived.Test.YtaplfbnjoifggaaWRepsOne
import Derived.Test.YtaplfbnjoifggaaWInv
import Derived.Test.YtaplfbnjoifggaaWInvWords
import Derived.Test.YtaplfbnjoifggaaWGuard
import Derived.Test.YtaplfbnjoifggaaWNEv
import Derived.Test.YtaplfbnjoifggaaWMore
namespace Go.Proofs.Ytaplfbnjoifggaa.H
open Go.RowKit Go.Proofs.YtaplfbnjoifggaaW.PrintWords Go.Proofs.YtaplfbnjoifggaaW.PrintLast Go.Proofs.YtaplfbnjoifggaaW.PrintMore
attribute [local go_sem] max2_int min2_int max_two min_two max_three min_three max_four min_four   -- for this text's walks alone
set_option linter.unusedVariables false
set_option linter.unusedSimpArgs false



def errW : Option Int → Value
  | none => .nilIface
  | some c => .iface 0 (.int .i64 c)
theorem errW_none : errW none = .nilIface := rfl
theorem errW_some (c : Int) : errW (some c) = .iface 0 (.int .i64 c) := rfl

theorem info3 : (Try.prog.info? 3).map (fun i => (i.zero, i.size, i.bytes)) = some (some (.int .i64 0), 1, 8) := by kernel_rfl
theorem info5 : (Try.prog.info? 5).map (fun i => (i.zero, i.size, i.bytes)) = some (some (.int .u8 0), 1, 1) := by kernel_rfl
-- the values' own types

end Go.Proofs.Ytaplfbnjoifggaa.H
