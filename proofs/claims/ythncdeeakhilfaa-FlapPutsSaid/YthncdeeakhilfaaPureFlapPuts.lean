import Derived.Test.YthncdeeakhilfaaHx4
import Derived.Test.YthncdeeakhilfaaGood
import Derived.Test.YthncdeeakhilfaaFlap
namespace Go.Proofs.Ythncdeeakhilfaa.Pure
open Go.RowKit Go.Proofs.Ythncdeeakhilfaa.H Go.Proofs.YthncdeeakhilfaaW.PrintWords Go.Proofs.YthncdeeakhilfaaW.PrintLast Go.Proofs.YthncdeeakhilfaaW.PrintMore Go.Proofs.Ythncdeeakhilfaa.Flap Go.Proofs.Ythncdeeakhilfaa.Bytes

theorem FlapPuts : ∀ (a0 : S37) (a1 : Int), good37 a0 → (Lit.int .i64 a1).wf = true → ∃ k, wharflaw12_FlapPuts.f k a0.f0 a0.f1 a0.f2 a1 = some true := by
  intro f n _ _
  refine ⟨100, ?_⟩
  unfold wharflaw12_FlapPuts.f
  by_cases c : (f.f2.size : Int) > 30000
  · rw [if_pos c]; rfl
  · rw [if_neg c, Put_eq _ _ _ 100 (by omega), refPut_eq _ _ _ 100 (by omega), Option.bind_some, Option.bind_some, if_pos rfl]
    have e : ∀ a, wharflaw12_num.f a = some a := fun _ => rfl
    rw [e, Option.bind_some, if_pos rfl, next_eq, refNext_eq, Option.bind_some, Option.bind_some, if_pos rfl]
    rfl
end Go.Proofs.Ythncdeeakhilfaa.Pure
