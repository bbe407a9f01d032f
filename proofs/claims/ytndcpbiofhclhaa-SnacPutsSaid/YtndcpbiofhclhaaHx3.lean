-- written by hp.py for this claim, out of the kit's printer and texts of my own
import Derived.Test.YtndcpbiofhclhaaHx400031
import Derived.Test.YtndcpbiofhclhaaHx400032
namespace Go.Proofs.Ytndcpbiofhclhaa.H
open Go.RowKit Go.Proofs.YtndcpbiofhclhaaW.PrintWords Go.Proofs.YtndcpbiofhclhaaW.PrintLast Go.Proofs.YtndcpbiofhclhaaW.PrintMore
attribute [local go_sem] max2_int min2_int max_two min_two max_three min_three max_four min_four   -- for this text's walks alone
set_option linter.unusedVariables false
set_option linter.unusedSimpArgs false

attribute [local go_sem high] eqA23
theorem wharflaw13_SnacPuts.calls (k : Nat) (a0_0 : Int) (a0_1 : Int) (a0_2 : Int) (a0_3 : Int) (a0_4 : ByteArray) (a1 : ByteArray) (a2 : Int) (a3 : Int) (r : Bool) (w : World) (h : wharflaw13_SnacPuts.f k a0_0 a0_1 a0_2 a0_3 a0_4 a1 a2 a3 = some r) :
    Calls Try.prog 3 #[.agg #[.int .i64 a0_0, .int .i64 a0_1, .int .i64 a0_2, .int .i64 a0_3, .string a0_4], .string a1, .int .i64 a2, .int .i64 a3] w fun e w' => e = .returned (.bool r) ∧ Below w.heap.size w w' := by
  rcases wharflaw13_SnacPuts.alt0 k a0_0 a0_1 a0_2 a0_3 a0_4 a1 a2 a3 r h with h | h
  · exact wharflaw13_SnacPuts.calls0 k a0_0 a0_1 a0_2 a0_3 a0_4 a1 a2 a3 r w h
  exact wharflaw13_SnacPuts.calls1 k a0_0 a0_1 a0_2 a0_3 a0_4 a1 a2 a3 r w h
end Go.Proofs.Ytndcpbiofhclhaa.H
