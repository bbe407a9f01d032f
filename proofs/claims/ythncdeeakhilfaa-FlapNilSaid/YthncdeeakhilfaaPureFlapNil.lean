import Derived.Test.YthncdeeakhilfaaHx7
import Derived.Test.YthncdeeakhilfaaGood
import Derived.Test.YthncdeeakhilfaaFlap
namespace Go.Proofs.Ythncdeeakhilfaa.Pure
open Go.RowKit Go.Proofs.Ythncdeeakhilfaa.H Go.Proofs.YthncdeeakhilfaaW.PrintWords Go.Proofs.YthncdeeakhilfaaW.PrintLast Go.Proofs.YthncdeeakhilfaaW.PrintMore Go.Proofs.Ythncdeeakhilfaa.Flap Go.Proofs.Ythncdeeakhilfaa.Bytes

theorem FlapNil : ∀ (a0 : ByteArray) (a1 : Int), a0.size ≤ 140737488351232 → (Lit.int .i64 a1).wf = true → ∃ k, wharflaw12_FlapNil.f k a0 a1 = some true := by
  intro b n _ _
  refine ⟨100, ?_⟩
  unfold wharflaw12_FlapNil.f
  by_cases c1 : (b.size : Int) > 30000
  · rw [if_pos c1]
  rw [if_neg c1]
  by_cases c2 : n < 0
  · rw [if_pos c2]
  rw [if_neg c2]
  by_cases c3 : 9000 < n
  · rw [if_pos c3]
  have hz : (strOfNums (List.replicate n.toNat 0)).size = n.toNat := by rw [strOfNums_size, List.length_replicate]
  rw [if_neg c3, Put_eq _ _ _ 100 (by omega), Option.bind_some]
  unfold putAns
  rw [if_pos (show Fok 2 0 by decide), hz]
  by_cases c4 : 8192 < n
  · rw [if_pos (show ((n.toNat : Nat) : Int) > 8192 by omega), if_pos c4]
    rfl
  · rw [if_neg (show ¬ ((n.toNat : Nat) : Int) > 8192 by omega), if_neg c4]
    rfl
end Go.Proofs.Ythncdeeakhilfaa.Pure
