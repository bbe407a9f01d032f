import Derived.Test.YtlcnhmigbdaajaaHx7
import Derived.Test.YtlcnhmigbdaajaaGood
namespace Go.Proofs.Ytlcnhmigbdaajaa.TimerSmall
open Go.RowKit Go.Proofs.Ytlcnhmigbdaajaa.H Go.Proofs.YtlcnhmigbdaajaaW.PrintWords Go.Proofs.YtlcnhmigbdaajaaW.PrintLast Go.Proofs.YtlcnhmigbdaajaaW.PrintMore
theorem wrap_id (n : Int) (h0 : -9223372036854775808 ≤ n) (h1 : n ≤ 9223372036854775807) : wrap64 n = n := by simp only [wrap64]; omega
theorem small_loop (l : List S32) : ∀ (d i k : Nat) (x : Int), i + d = 102 → i ≤ l.length → d < k → ∃ b, wharflaw20_small.l0 k l x (i : Int) = some b ∧ (b = true → l.length ≤ 100) := by
  intro d
  induction d with
  | zero =>
    intro i k x hi hl hk
    obtain ⟨k, rfl⟩ : ∃ m, k = m + 1 := ⟨k - 1, by omega⟩
    simp only [wharflaw20_small.l0]
    by_cases c : (i : Int) < (l.length : Int)
    · rw [if_pos c, if_neg (by omega), if_neg (by omega)]
      exact ⟨false, rfl, fun h => by cases h⟩
    · rw [if_neg c, if_neg (by omega)]
      exact ⟨false, rfl, fun h => by cases h⟩
  | succ d ih =>
    intro i k x hi hl hk
    obtain ⟨k, rfl⟩ : ∃ m, k = m + 1 := ⟨k - 1, by omega⟩
    simp only [wharflaw20_small.l0]
    have hend : ∃ b, (if (l.length : Int) ≤ 100 then some (decide (x ≤ 5000)) else some false) = some b ∧ (b = true → l.length ≤ 100) := by
      by_cases c2 : (l.length : Int) ≤ 100
      · rw [if_pos c2]
        exact ⟨_, rfl, fun _ => by omega⟩
      · rw [if_neg c2]
        exact ⟨false, rfl, fun h => by cases h⟩
    by_cases c : (i : Int) < (l.length : Int)
    · rw [if_pos c]
      by_cases c2 : (i : Int) ≤ 100
      · rw [if_pos c2]
        by_cases c3 : x ≤ 5000
        · rw [if_pos c3, if_pos (by omega), wrap_id ((i : Int) + 1) (by omega) (by omega)]
          exact ih (i + 1) k _ (by omega) (by omega) (by omega)
        · rw [if_neg c3]
          exact hend
      · rw [if_neg c2]
        exact hend
    · rw [if_neg c]
      exact hend
theorem small_some (l : List S32) : ∃ b, wharflaw20_small.f 200 l = some b ∧ (b = true → l.length ≤ 100) :=
  small_loop l 102 0 200 0 rfl (Nat.zero_le _) (by omega)
theorem wf_le {n : Int} (h : (Lit.int .i64 n).wf = true) : n ≤ 9223372036854775807 := by
  simp only [Lit.wf, Bool.and_eq_true, decide_eq_true_eq] at h
  have h2 : n ≤ IntKind.max .i64 := h.2
  have h3 : IntKind.max .i64 = 9223372036854775807 := by decide +kernel
  omega
end Go.Proofs.Ytlcnhmigbdaajaa.TimerSmall
