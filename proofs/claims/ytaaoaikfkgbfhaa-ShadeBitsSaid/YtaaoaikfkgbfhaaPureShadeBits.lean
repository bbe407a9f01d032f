import Derived.Test.YtaaoaikfkgbfhaaHx7
import Derived.Test.YtaaoaikfkgbfhaaGood
import Derived.Test.YtaaoaikfkgbfhaaShade
namespace Go.Proofs.Ytaaoaikfkgbfhaa.Pure
open Go.RowKit Go.Proofs.Ytaaoaikfkgbfhaa.H Go.Proofs.YtaaoaikfkgbfhaaW.PrintWords Go.Proofs.YtaaoaikfkgbfhaaW.PrintLast Go.Proofs.YtaaoaikfkgbfhaaW.PrintMore Go.Proofs.Ytaaoaikfkgbfhaa.Shade

theorem bits1 (x : Int) (k : Nat) (hk : 64 ≤ k) (b : Bool) (hb : b = false) : wharflaw16_ShadeBits.j1 (k + 1) (shown x).1 (shown x).2 b = some true := by
  subst hb
  simp only [wharflaw16_ShadeBits.j1]
  rw [if_neg Bool.false_ne_true, live k hk]
  unfold shown
  by_cases c1 : x < 0 ∨ x / 256 % 2 = 1
  · rw [if_pos c1]; decide +kernel
  · rw [if_neg c1]
    by_cases c2 : x / 2 % 2 = 1 ∨ x / 16 % 2 = 1
    · rw [if_pos c2]; decide +kernel
    · rw [if_neg c2]
      by_cases c3 : x / 4 % 2 = 1
      · rw [if_pos c3]; decide +kernel
      · rw [if_neg c3]
        by_cases c4 : x % 2 = 1
        · rw [if_pos c4]; decide +kernel
        · rw [if_neg c4]
          by_cases c5 : x / 32 % 2 = 1
          · rw [if_pos c5]; decide +kernel
          · rw [if_neg c5]; decide +kernel
theorem ShadeBits : ∀ (a0 : Int) (a1 : Int), (Lit.int .i64 a0).wf = true → (Lit.int .i64 a1).wf = true → ∃ k, wharflaw16_ShadeBits.f k a0 a1 = some true := by
  intro x y _ _
  obtain ⟨K, hK⟩ : ∃ K : Nat, K = 1000 := ⟨_, rfl⟩
  refine ⟨K + 2, ?_⟩
  have ht : ∀ b : Bool, (b = false → 0 ≤ x ∧ x < 512 ∧ 0 ≤ y ∧ y ≤ 1048576) → wharflaw16_ShadeBits.j0 (K + 2) x y b = some true := by
    intro b hb
    simp only [wharflaw16_ShadeBits.j0]
    cases b with
    | true => rw [if_pos rfl, live (K + 1) (by omega)]; rfl
    | false =>
      obtain ⟨h0, h1, h2, h3⟩ := hb rfl
      rw [if_neg Bool.false_ne_true, Int.tdiv_eq_ediv_of_nonneg h0, Int.tmod_eq_emod_of_nonneg h0, wid (512 * y) (by omega) (by omega), wid (x + 512 * y) (by omega) (by omega), wid (x / 512) (by omega) (by omega), wid (x / 512 * 512) (by omega) (by omega), wid (x / 512 * 512 + x % 256) (by omega) (by omega), wid (x / 512 * 512 + x % 256 + 256) (by omega) (by omega)]
      rw [Show_eq x (by omega) (by omega) (K + 1) (by omega), Show_eq (x + 512 * y) (by omega) (by omega) (K + 1) (by omega), Show_eq (x / 512 * 512 + x % 256 + 256) (by omega) (by omega) (K + 1) (by omega), Option.bind_some, Option.bind_some, Option.bind_some]
      have e1 : shown (x + 512 * y) = shown x := by
        unfold shown
        have a1 : (x + 512 * y) / 256 % 2 = x / 256 % 2 := by omega
        have a2 : (x + 512 * y) / 2 % 2 = x / 2 % 2 := by omega
        have a3 : (x + 512 * y) / 16 % 2 = x / 16 % 2 := by omega
        have a4 : (x + 512 * y) / 4 % 2 = x / 4 % 2 := by omega
        have a5 : (x + 512 * y) % 2 = x % 2 := by omega
        have a6 : (x + 512 * y) / 32 % 2 = x / 32 % 2 := by omega
        rw [a1, a2, a3, a4, a5, a6]
        have e : (x + 512 * y < 0) ↔ (x < 0) := by omega
        simp only [e]
      have e2 : (shown (x / 512 * 512 + x % 256 + 256)).2 = false := by
        unfold shown
        rw [if_pos (Or.inr (by omega))]
      have e3 : (shown x).2 = decide (x < 256) := by
        unfold shown
        by_cases c : x < 256
        · rw [if_neg (by omega), decide_eq_true c]
          repeat' split
          all_goals rfl
        · rw [if_pos (Or.inr (by omega)), decide_eq_false c]
      have eb : ((shown x).2 != (shown x).2) = false := bne_self_eq_false _
      rw [e1, if_pos rfl, eb, if_neg Bool.false_ne_true, e2, if_neg Bool.false_ne_true]
      exact bits1 x K (by omega) _ (by rw [e3]; exact bne_self_eq_false _)
  unfold wharflaw16_ShadeBits.f
  split
  · exact ht true (fun e => by cases e)
  · split
    · exact ht true (fun e => by cases e)
    · split
      · exact ht true (fun e => by cases e)
      · refine ht _ (fun e => ?_)
        rw [decide_eq_false_iff_not] at e
        omega
end Go.Proofs.Ytaaoaikfkgbfhaa.Pure
