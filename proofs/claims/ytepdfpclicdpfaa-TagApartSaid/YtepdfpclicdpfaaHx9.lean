-- written by hp.py for this claim, out of the kit's printer and texts of my own
import Derived.Test.YtepdfpclicdpfaaHx0
import Derived.Test.YtepdfpclicdpfaaHx20001
import Derived.Test.YtepdfpclicdpfaaHx20002
import Derived.Test.YtepdfpclicdpfaaHx20003
import Derived.Test.YtepdfpclicdpfaaHx20003
namespace Go.Proofs.Ytepdfpclicdpfaa.H
open Go.RowKit Go.Proofs.YtepdfpclicdpfaaW.PrintWords Go.Proofs.YtepdfpclicdpfaaW.PrintLast Go.Proofs.YtepdfpclicdpfaaW.PrintMore
attribute [local go_sem] max2_int min2_int max_two min_two max_three min_three max_four min_four   -- for this text's walks alone
set_option linter.unusedVariables false
set_option linter.unusedSimpArgs false

def tag_Put.f (a0_0 a0_1 : ByteArray) (l0_2 : List S51) (a0_3 : ByteArray) (l0_4 : List S25) (a1 : ByteArray) : Option ByteArray := if (dOkB 16 ⟨a0_0, a0_1, l0_2, a0_3, l0_4⟩ && decide ((putL 16 ⟨a0_0, a0_1, l0_2, a0_3, l0_4⟩ a1).length ≤ 100000000)) = true then some ⟨(putL 16 ⟨a0_0, a0_1, l0_2, a0_3, l0_4⟩ a1).toArray⟩ else none
theorem tag_Put.calls (a0_0 a0_1 : ByteArray) (A0_2 : Option Addr) (c0_2 : Nat) (l0_2 : List S51) (a0_3 : ByteArray) (A0_4 : Option Addr) (c0_4 : Nat) (l0_4 : List S25) (a1 : ByteArray) (r : ByteArray) (w : World) (hr0_2 : Kd.C k51 w A0_2 l0_2.length l0_2) (hc0_2 : l0_2.length ≤ c0_2) (hr0_4 : Kd.C k25 w A0_4 l0_4.length l0_4) (hc0_4 : l0_4.length ≤ c0_4) (h : tag_Put.f a0_0 a0_1 l0_2 a0_3 l0_4 a1 = some r) :
    Calls Try.prog 9 #[.agg #[.string a0_0, .string a0_1, .slice A0_2 l0_2.length c0_2, .string a0_3, .slice A0_4 l0_4.length c0_4], .string a1] w fun e w' => e = .returned (.string r) ∧ Below w.heap.size w w' := by
  unfold tag_Put.f at h
  split at h
  · next hf =>
    obtain rfl := Option.some.inj h
    simp only [Bool.and_eq_true, decide_eq_true_eq] at hf
    exact put_calls 16 ⟨a0_0, a0_1, l0_2, a0_3, l0_4⟩ a1 A0_2 A0_4 c0_2 c0_4 w (dOkB_ok _ _ hf.1) hc0_2 hr0_2 hc0_4 hr0_4 hf.2
  · cases h

end Go.Proofs.Ytepdfpclicdpfaa.H
