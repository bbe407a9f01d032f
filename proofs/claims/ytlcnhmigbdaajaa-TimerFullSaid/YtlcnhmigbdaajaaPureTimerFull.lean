import Derived.Test.YtlcnhmigbdaajaaHx5
import Derived.Test.YtlcnhmigbdaajaaGood
namespace Go.Proofs.Ytlcnhmigbdaajaa.Pure
open Go.RowKit Go.Proofs.Ytlcnhmigbdaajaa.H Go.Proofs.YtlcnhmigbdaajaaW.PrintWords Go.Proofs.YtlcnhmigbdaajaaW.PrintLast Go.Proofs.YtlcnhmigbdaajaaW.PrintMore
theorem TimerFull : ∀ (a0 : Int) (a1 : ByteArray), (Lit.int .i64 a0).wf = true → a1.size ≤ 140737488351232 → ∃ k, wharflaw20_TimerFull.f k a0 a1 = some true := fun _ _ _ _ => ⟨0, rfl⟩
end Go.Proofs.Ytlcnhmigbdaajaa.Pure
