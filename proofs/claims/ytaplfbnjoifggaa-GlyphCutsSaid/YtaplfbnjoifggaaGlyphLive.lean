/-
  The glyph's live is true.
-/
import Derived.Test.YtaplfbnjoifggaaTexts
import Derived.Test.YtaplfbnjoifggaaHx12
import Derived.Test.YtaplfbnjoifggaaHx17
namespace Go.Proofs.Ytaplfbnjoifggaa.Utf
open Go.RowKit Go.Proofs.YtaplfbnjoifggaaW.PrintWords Go.Proofs.Ytaplfbnjoifggaa.Bytes Go.Lib Go.Proofs.Ytaplfbnjoifggaa.H
theorem live (k : Nat) (hk : 30 ≤ k) : wharflaw01_live.f k = some true :=
  at_rounds (g := fun k => wharflaw01_live.f k) (fun k => wharflaw01_live.mono k) hk (by decide +kernel)
theorem num_eq (n : Int) : wharflaw01_num.f n = some n := rfl
end Go.Proofs.Ytaplfbnjoifggaa.Utf
