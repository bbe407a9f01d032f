import Derived.Test.YtndcpbiofhclhaaHx9
import Derived.Test.YtndcpbiofhclhaaGood
import Derived.Test.YtndcpbiofhclhaaTlvSmall
namespace Go.Proofs.Ytndcpbiofhclhaa.Pure
open Go.RowKit Go.Proofs.Ytndcpbiofhclhaa.H Go.Proofs.YtndcpbiofhclhaaW.PrintWords Go.Proofs.YtndcpbiofhclhaaW.PrintLast Go.Proofs.YtndcpbiofhclhaaW.PrintMore Go.Proofs.Ytndcpbiofhclhaa.Bytes Go.Proofs.Ytndcpbiofhclhaa.Tlv

theorem TlvPuts : ∀ (a0 : List (S75)) (a1 : Int), (a0.length ≤ maxLen ∧ a0.length * 24 ≤ 140737488351232 ∧ ∀ z ∈ a0, good75 z) → (Lit.int .i64 a1).wf = true → ∃ k, wharflaw11_TlvPuts.f k a0 a1 = some true := by
  intro l t hg _
  have hgs : ∀ z ∈ l, z.f1.size ≤ 140737488351232 := fun z hz => (hg.2.2 z hz).2
  have hl24 := hg.2.1
  refine ⟨l.length + 100, ?_⟩
  have hl := live (l.length + 100) (by omega)
  obtain ⟨b, hb, _⟩ := small_some l hgs (l.length + 100) (by omega)
  unfold wharflaw11_TlvPuts.f
  rw [hl, hb, Option.bind_some]
  cases b with
  | false => rfl
  | true =>
    rw [if_pos rfl, Option.bind_some, if_pos (by rw [List.length_nil]; omega), List.nil_append, Put_eq l hgs _ (by omega), refPut_eq l hgs _ (by omega), Find_eq _ _ (by omega) _ (by omega), refFind_eq _ _ (by omega) _ (by omega)]
    simp only [Option.bind_some, wharflaw11_num.f, if_true, beq_self_eq_true]
end Go.Proofs.Ytndcpbiofhclhaa.Pure
