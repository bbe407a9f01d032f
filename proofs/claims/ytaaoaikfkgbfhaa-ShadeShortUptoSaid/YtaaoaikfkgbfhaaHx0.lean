-- written by hp.py for this claim, out of the kit's printer and texts of my own
import Derived.Test.YtaaoaikfkgbfhaaProg
import Derived.Below
import Derived.Deep.Draws
import Derived.Deep.AppendLies
import Derived.Maps.AppendAt
import Derived.OwnWalk
import Derived.Laws.BytesArg
import Derived.Laws.MakeOwn
import Derived.Laws.OwnMore
import Derived.Deep.OwnRows
import Derived.Tactics
import Derived.Lib.ConvBytes
import Derived.Laws.Slices
import Derived.WalkKit
import Derived.KernelRfl
import Derived.RowKit3
import Derived.Deep.LoopGhost
import Derived.Deep.QuietTactic
import Derived.BigQuiet
import Derived.WideLaws
import Derived.Deep.DeepCutAuto
import Derived.Deep.CutBlock
import Derived.Deep.RegionHeld3
import Derived.Laws.Rows
import Derived.Lib.AppendStr
import Derived.ArgAppend
import Derived.Laws.IdiomCopy
import Derived.OrdersHeld
import Derived.Laws.BitsLemmas
import Derived.RowKit
import Derived.Test.YtaaoaikfkgbfhaaWWords
import Derived.Test.YtaaoaikfkgbfhaaWLast
import Derived.Test.YtaaoaikfkgbfhaaWTab
import Derived.Test.YtaaoaikfkgbfhaaWFour
import Derived.Test.YtaaoaikfkgbfhaaWQPut
import Derived.Test.YtaaoaikfkgbfhaaWApart
import Derived.Test.YtaaoaikfkgbfhaaWArr
import Derived.Test.YtaaoaikfkgbfhaaWZeros
import Derived.Test.YtaaoaikfkgbfhaaWFoot
import Derived.Test.YtaaoaikfkgbfhaaWKept
import Derived.Test.YtaaoaikfkgbfhaaWShare
import Derived.Test.YtaaoaikfkgbfhaaWN
import Derived.Test.YtaaoaikfkgbfhaaWFootNe
import Derived.Test.YtaaoaikfkgbfhaaWAt
import Derived.Test.YtaaoaikfkgbfhaaWEqStruct
import Derived.Test.YtaaoaikfkgbfhaaWRepsOne
import Derived.Test.YtaaoaikfkgbfhaaWInv
import Derived.Test.YtaaoaikfkgbfhaaWInvWords
import Derived.Test.YtaaoaikfkgbfhaaWGuard
import Derived.Test.YtaaoaikfkgbfhaaWNEv
import Derived.Test.YtaaoaikfkgbfhaaWMore
namespace Go.Proofs.Ytaaoaikfkgbfhaa.H
open Go.RowKit Go.Proofs.YtaaoaikfkgbfhaaW.PrintWords Go.Proofs.YtaaoaikfkgbfhaaW.PrintLast Go.Proofs.YtaaoaikfkgbfhaaW.PrintMore
attribute [local go_sem] max2_int min2_int max_two min_two max_three min_three max_four min_four   -- for this text's walks alone
set_option linter.unusedVariables false
set_option linter.unusedSimpArgs false



def errW : Option Int → Value
  | none => .nilIface
  | some c => .iface 0 (.int .i64 c)
theorem errW_none : errW none = .nilIface := rfl
theorem errW_some (c : Int) : errW (some c) = .iface 0 (.int .i64 c) := rfl

theorem info3 : (Try.prog.info? 3).map (fun i => (i.zero, i.size, i.bytes)) = some (some (.int .i64 0), 1, 8) := by kernel_rfl
theorem info5 : (Try.prog.info? 5).map (fun i => (i.zero, i.size, i.bytes)) = some (some (.int .u8 0), 1, 1) := by kernel_rfl
theorem info9 : (Try.prog.info? 9).map (fun i => (i.zero, i.size, i.bytes)) = some (some (.string ⟨#[]⟩), 1, 16) := by kernel_rfl
-- the values' own types

end Go.Proofs.Ytaaoaikfkgbfhaa.H
