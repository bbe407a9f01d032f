import Derived.Test.YtaplfbnjoifggaaHx3
import Derived.Test.YtaplfbnjoifggaaGood
import Derived.Test.YtaplfbnjoifggaaGlyphLive
import Derived.Test.YtaplfbnjoifggaaUtfRef
namespace Go.Proofs.Ytaplfbnjoifggaa.Pure
open Go.RowKit Go.Proofs.Ytaplfbnjoifggaa.H Go.Proofs.YtaplfbnjoifggaaW.PrintWords Go.Proofs.YtaplfbnjoifggaaW.PrintLast Go.Proofs.YtaplfbnjoifggaaW.PrintMore Go.Proofs.Ytaplfbnjoifggaa.Utf Go.Proofs.Ytaplfbnjoifggaa.Bytes

theorem GlyphFirsts : ∀ (a0 : ByteArray) (a1 : Int), a0.size ≤ 140737488351232 → (Lit.int .i64 a1).wf = true → ∃ k, wharflaw01_GlyphFirsts.f k a0 a1 = some true := by
  intro s c hs _
  refine ⟨40, ?_⟩
  unfold wharflaw01_GlyphFirsts.f
  rw [live 40 (by omega), First_eq, refFirst_eq _ 40 (by omega), Utf.Put_eq, refPut_eq]
  simp only [Option.bind_some, num_eq, if_true]
  split <;> rfl
end Go.Proofs.Ytaplfbnjoifggaa.Pure
