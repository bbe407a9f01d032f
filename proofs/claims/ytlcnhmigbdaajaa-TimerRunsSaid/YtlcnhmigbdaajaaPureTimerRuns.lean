import Derived.Test.YtlcnhmigbdaajaaHx3
import Derived.Test.YtlcnhmigbdaajaaGood
import Derived.Test.YtlcnhmigbdaajaaTimerSmall
namespace Go.Proofs.Ytlcnhmigbdaajaa.Pure
open Go.RowKit Go.Proofs.Ytlcnhmigbdaajaa.H Go.Proofs.YtlcnhmigbdaajaaW.PrintWords Go.Proofs.YtlcnhmigbdaajaaW.PrintLast Go.Proofs.YtlcnhmigbdaajaaW.PrintMore Go.Proofs.Ytlcnhmigbdaajaa.TimerSmall

theorem TimerRuns : ∀ (a0 : List (S32)), (a0.length ≤ maxLen ∧ a0.length * 32 ≤ 140737488351232 ∧ ∀ z ∈ a0, good32 z) → ∃ k, wharflaw20_TimerRuns.f k a0 = some true := by
  intro l hl
  obtain ⟨b, hb, hbl⟩ := small_some l
  refine ⟨200, ?_⟩
  unfold wharflaw20_TimerRuns.f
  rw [hb, Option.bind_some]
  have h1 : onceOk l b = true := by
    unfold onceOk
    cases b with
    | false => rfl
    | true =>
      have h2 := hbl rfl
      have h3 : l.all (fun x => decide (x.f1 ≤ 9223372036854775807)) = true := by
        rw [List.all_eq_true]
        intro x hx
        exact decide_eq_true (wf_le (hl.2.2 x hx).2.1)
      rw [h3, decide_eq_true h2]
      rfl
  rw [if_pos h1]
end Go.Proofs.Ytlcnhmigbdaajaa.Pure
