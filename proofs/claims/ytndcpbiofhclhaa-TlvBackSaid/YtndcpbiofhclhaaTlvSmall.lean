/-
  The law's bound on a list of values.
-/
import Derived.Test.YtndcpbiofhclhaaTlvMore
namespace Go.Proofs.Ytndcpbiofhclhaa.Tlv
open Go.RowKit Go.Proofs.YtndcpbiofhclhaaW.PrintWords Go.Proofs.Ytndcpbiofhclhaa.H Go.Proofs.Ytndcpbiofhclhaa.Bytes

theorem small_loop (l : List S75) (hg : ∀ z ∈ l, z.f1.size ≤ 140737488351232) : ∀ (d i k : Nat) (n : Int), i + d = 66 → 0 ≤ n → n ≤ 5000 + 140737488351232 → d < k → ∃ b, wharflaw11_small.l0 k l n (i : Int) = some b ∧ (b = true → l.length ≤ 65) := by
  have out : ∀ n : Int, ∃ b, (if (l.length : Int) ≤ 65 then (some (decide (n ≤ 5000))) else (some false)) = some b ∧ (b = true → l.length ≤ 65) := by
    intro n
    by_cases h : (l.length : Int) ≤ 65
    · exact ⟨_, if_pos h, fun _ => by omega⟩
    · exact ⟨_, if_neg h, fun e => by cases e⟩
  intro d
  induction d with
  | zero =>
    intro i k n hi h0 hn hk
    obtain ⟨k, rfl⟩ : ∃ m, k = m + 1 := ⟨k - 1, by omega⟩
    simp only [wharflaw11_small.l0]
    by_cases h1 : (i : Int) < (l.length : Int)
    · rw [if_pos h1, if_neg (by omega)]
      exact out n
    · rw [if_neg h1]
      exact out n
  | succ d ih =>
    intro i k n hi h0 hn hk
    obtain ⟨k, rfl⟩ : ∃ m, k = m + 1 := ⟨k - 1, by omega⟩
    simp only [wharflaw11_small.l0]
    by_cases h1 : (i : Int) < (l.length : Int)
    · rw [if_pos h1, if_pos (by omega)]
      by_cases h2 : n ≤ 5000
      · have hlt : i < l.length := by omega
        have hgi := hg l[i] (List.getElem_mem hlt)
        rw [if_pos h2, if_pos (by omega), rd_get l i hlt, wrap_id _ (by omega) (by omega), wrap_id _ (by omega) (by omega), show ((i : Int) + 1) = ((i + 1 : Nat) : Int) by omega]
        exact ih (i + 1) k _ (by omega) (by omega) (by omega) (by omega)
      · rw [if_neg h2]
        exact out n
    · rw [if_neg h1]
      exact out n
theorem small_some (l : List S75) (hg : ∀ z ∈ l, z.f1.size ≤ 140737488351232) (k : Nat) (hk : 67 ≤ k) : ∃ b, wharflaw11_small.f k l = some b ∧ (b = true → l.length ≤ 65) :=
  small_loop l hg 66 0 k 0 (by omega) (by omega) (by omega) (by omega)
end Go.Proofs.Ytndcpbiofhclhaa.Tlv
