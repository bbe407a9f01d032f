import Derived.Test.YtndcpbiofhclhaaHx7
import Derived.Test.YtndcpbiofhclhaaGood
import Derived.Test.YtndcpbiofhclhaaTlvMore
namespace Go.Proofs.Ytndcpbiofhclhaa.Pure
open Go.RowKit Go.Proofs.Ytndcpbiofhclhaa.H Go.Proofs.YtndcpbiofhclhaaW.PrintWords Go.Proofs.YtndcpbiofhclhaaW.PrintLast Go.Proofs.YtndcpbiofhclhaaW.PrintMore Go.Proofs.Ytndcpbiofhclhaa.Bytes Go.Proofs.Ytndcpbiofhclhaa.Tlv

theorem TlvInts : ∀ (a0 : Int) (a1 : Int) (a2 : ByteArray), (Lit.int .i64 a0).wf = true → (Lit.int .i64 a1).wf = true → a2.size ≤ 140737488351232 → ∃ k, wharflaw11_TlvInts.f k a0 a1 a2 = some true := by
  intro n w s _ _ hs
  refine ⟨100, ?_⟩
  have hl := live 100 (by omega)
  unfold wharflaw11_TlvInts.f
  rw [hl, Int_eq, refInt_eq n w 100 (by omega), Num_eq s 100 (by omega), refNum_eq s 100 (by omega), Text_eq s w hs, refText_eq s w hs 100 (by omega)]
  simp only [Option.bind_some, wharflaw11_num.f, if_true]
  split <;> rfl
end Go.Proofs.Ytndcpbiofhclhaa.Pure
