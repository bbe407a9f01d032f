import Derived.Test.YtbeclnffcapfpaaHx3
import Derived.Test.YtbeclnffcapfpaaGood
import Derived.Test.YtbeclnffcapfpaaRate
namespace Go.Proofs.Ytbeclnffcapfpaa.Pure
open Go.RowKit Go.Proofs.Ytbeclnffcapfpaa.H Go.Proofs.YtbeclnffcapfpaaW.PrintWords Go.Proofs.YtbeclnffcapfpaaW.PrintLast Go.Proofs.YtbeclnffcapfpaaW.PrintMore Go.Proofs.Ytbeclnffcapfpaa.Rate

theorem time_eq (n : Int) : wharflaw19_time.f n = some (decide (0 ≤ n ∧ n ≤ 4503599627370496)) := by
  unfold wharflaw19_time.f
  by_cases h : n ≥ 0
  · rw [if_pos h]
    congr 1
    rw [Bool.eq_iff_iff, decide_eq_true_iff, decide_eq_true_iff]
    omega
  · rw [if_neg h, decide_eq_false (by omega)]
theorem RateTells : ∀ (a0 : S23) (a1 : Int), good23 a0 → (Lit.int .i64 a1).wf = true → ∃ k, wharflaw19_RateTells.f k a0.f0 a0.f1 a0.f2 a0.f3 a0.f4 a0.f5 a0.f6 a0.f7 a1 = some true := by
  intro a0 now _ _
  obtain ⟨W, C, A, L, D, M, v, t⟩ := a0
  obtain ⟨K, hK⟩ : ∃ K : Nat, K = 4503599627371000 := ⟨_, rfl⟩
  refine ⟨K + 1, ?_⟩
  have hl := live K (by omega)
  have ht : ∀ x, (x = true ∨ (Rok W C A L D M v t ∧ 0 ≤ now ∧ now ≤ 4503599627370496)) → wharflaw19_RateTells.j0 (K + 1) now x W C A L D M v t = some true := by
    intro x hx
    simp only [wharflaw19_RateTells.j0]
    rw [hl, Option.bind_some]
    by_cases c : x = true
    · rw [if_pos c]
    · obtain ⟨hr, h0, h1⟩ := hx.resolve_left c
      rw [if_neg c, behind_eq hr now h0 (by omega), refPeek_eq hr now h0 (by omega), Option.bind_some, Option.bind_some, if_pos rfl, May_eq hr now h0 (by omega), refMay_eq hr now h0 (by omega), Option.bind_some, Option.bind_some, if_pos (by simp), Send_eq hr now h0 (by omega), refSend_eq hr now h0 (by omega), Option.bind_some, Option.bind_some, if_pos (by simp), Wait_eq hr now h0 h1 K (by omega), refWait_eq hr now h0 h1 K (by omega), Option.bind_some, Option.bind_some, if_pos rfl]
  unfold wharflaw19_RateTells.f
  dsimp only
  rw [Check_eq W C A L D M v t (K + 1) (by omega), Is_eq, Option.bind_some]
  simp only [wharflaw19_num.f, Option.bind_some]
  by_cases hr : Rok W C A L D M v t
  · rw [if_pos hr, decide_eq_true hr, if_neg (by decide), if_pos rfl, time_eq, Option.bind_some]
    by_cases hn : 0 ≤ now ∧ now ≤ 4503599627370496
    · rw [decide_eq_true hn]
      exact ht _ (Or.inr ⟨hr, hn⟩)
    · rw [decide_eq_false hn]
      exact ht _ (Or.inl rfl)
  · rw [if_neg hr, decide_eq_false hr, if_neg (by decide), if_neg (by decide)]
    exact ht _ (Or.inl rfl)
end Go.Proofs.Ytbeclnffcapfpaa.Pure
