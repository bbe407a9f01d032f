-- written by hp.py for this claim, out of the kit's printer and texts of my own
import Derived.Test.YtepdfpclicdpfaaHx0
import Derived.Test.YtepdfpclicdpfaaHx20001
import Derived.Test.YtepdfpclicdpfaaHx20001
namespace Go.Proofs.Ytepdfpclicdpfaa.H
open Go.RowKit Go.Proofs.YtepdfpclicdpfaaW.PrintWords Go.Proofs.YtepdfpclicdpfaaW.PrintLast Go.Proofs.YtepdfpclicdpfaaW.PrintMore
attribute [local go_sem] max2_int min2_int max_two min_two max_three min_three max_four min_four   -- for this text's walks alone
set_option linter.unusedVariables false
set_option linter.unusedSimpArgs false

def tag_Quote.f (a0 : ByteArray) : Option ByteArray := if a0.size ≤ 1000000000 then some (quoteS a0) else none
theorem tag_Quote.calls (a0 : ByteArray) (r : ByteArray) (w : World) (h : tag_Quote.f a0 = some r) :
    Calls Try.prog 11 #[.string a0] w fun e w' => e = .returned (.string r) ∧ Below w.heap.size w w' := by
  unfold tag_Quote.f at h
  split at h
  · obtain rfl := Option.some.inj h
    exact quote_calls a0 w (by assumption)
  · cases h

end Go.Proofs.Ytepdfpclicdpfaa.H
