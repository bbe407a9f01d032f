import Derived.Test.YtaaoaikfkgbfhaaHx3
import Derived.Test.YtaaoaikfkgbfhaaGood
import Derived.Test.YtaaoaikfkgbfhaaShade
namespace Go.Proofs.Ytaaoaikfkgbfhaa.Pure
open Go.RowKit Go.Proofs.Ytaaoaikfkgbfhaa.H Go.Proofs.YtaaoaikfkgbfhaaW.PrintWords Go.Proofs.YtaaoaikfkgbfhaaW.PrintLast Go.Proofs.YtaaoaikfkgbfhaaW.PrintMore Go.Proofs.Ytaaoaikfkgbfhaa.Shade

theorem ShadeStatuses : ∀ (a0 : Int) (a1 : ByteArray) (a2 : Int), (Lit.int .i64 a0).wf = true → a1.size ≤ 140737488351232 → (Lit.int .i64 a2).wf = true → ∃ k, wharflaw16_ShadeStatuses.f k a0 a1 a2 = some true := by
  intro x s n hx _ _
  have hx2 : IntKind.i64.min ≤ x ∧ x ≤ 9223372036854775807 := by simpa [Lit.wf] using hx
  have hx3 : IntKind.i64.min = -9223372036854775808 := by decide
  have hx' : -9223372036854775808 ≤ x ∧ x < 9223372036854775808 := by omega
  obtain ⟨K, hK⟩ : ∃ K : Nat, K = 1000 := ⟨_, rfl⟩
  refine ⟨K, ?_⟩
  have hs : shade_Status.f s = wharfref16_Status.f s := rfl
  have hm : shade_Minutes.f n = wharfref16_Minutes.f n := rfl
  have hc : shade_Seconds.f n = wharfref16_Seconds.f n := by
    unfold shade_Seconds.f wharfref16_Seconds.f mx mn
    congr 1
    repeat' split
    all_goals omega
  obtain ⟨t, ht⟩ : ∃ t, wharfref16_Status.f s = some t := by
    unfold wharfref16_Status.f
    repeat' split
    all_goals exact ⟨_, rfl⟩
  unfold wharflaw16_ShadeStatuses.f
  rw [Show_eq x hx'.1 hx'.2 K (by omega), refShow_eq x hx'.1 hx'.2 K (by omega), hs, hm, hc, ht, live K (by omega)]
  simp only [Option.bind_some, wharfref16_Seconds.f, wharfref16_Minutes.f]
  simp
end Go.Proofs.Ytaaoaikfkgbfhaa.Pure
