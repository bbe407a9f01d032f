import Derived.Test.YtndcpbiofhclhaaHx8
import Derived.Test.YtndcpbiofhclhaaGood
import Derived.Test.YtndcpbiofhclhaaTlvMore
namespace Go.Proofs.Ytndcpbiofhclhaa.Pure
open Go.RowKit Go.Proofs.Ytndcpbiofhclhaa.H Go.Proofs.YtndcpbiofhclhaaW.PrintWords Go.Proofs.YtndcpbiofhclhaaW.PrintLast Go.Proofs.YtndcpbiofhclhaaW.PrintMore Go.Proofs.Ytndcpbiofhclhaa.Bytes Go.Proofs.Ytndcpbiofhclhaa.Tlv

theorem first2_err (s : ByteArray) : (first s 2).2.2 = 0 ∨ (first s 2).2.2 = 110 := by
  unfold first
  rw [if_pos (by omega)]
  split
  · exact Or.inr rfl
  · split
    · exact Or.inr rfl
    · exact Or.inl rfl
theorem gather_len : ∀ (l : List TItem) (acc : List S75), acc.length ≤ 64 → (gather l acc).1.length ≤ 64 := by
  intro l
  induction l with
  | nil => intro acc h; exact h
  | cons x l ih =>
    intro acc h
    obtain ⟨t, v, e⟩ := x
    simp only [gather]
    split
    · split
      · exact Nat.zero_le _
      · exact ih _ (by rw [List.length_append, List.length_singleton]; omega)
    · exact Nat.zero_le _
theorem refParse_loop : ∀ (d : Nat) (s : ByteArray) (acc : List S75) (k : Nat), s.size ≤ d → d ≤ 140737488351232 → acc.length ≤ 64 → d + 20 < k →
    wharfref11_Parse.l0 k s acc = some (gather (items s) acc) := by
  intro d
  induction d with
  | zero =>
    intro s acc k hs _ _ hk
    obtain ⟨k, rfl⟩ : ∃ m, k = m + 1 := ⟨k - 1, by omega⟩
    have h0 : s.size = 0 := by omega
    simp only [wharfref11_Parse.l0]
    rw [if_pos (by rw [toList_L]; exact List.length_eq_zero_iff.mp h0), items_nil h0]
    rfl
  | succ d ih =>
    intro s acc k hs hd ha hk
    obtain ⟨k, rfl⟩ : ∃ m, k = m + 1 := ⟨k - 1, by omega⟩
    simp only [wharfref11_Parse.l0]
    by_cases h0 : s.size = 0
    · rw [if_pos (by rw [toList_L]; exact List.length_eq_zero_iff.mp h0), items_nil h0]
      rfl
    · rw [if_neg (by rw [toList_L]; exact fun e => h0 (by rw [size_L, e]; rfl))]
      by_cases h1 : s.size < 2
      · rw [if_pos (by omega), items_short h0 h1]
        rfl
      · rw [if_neg (by omega), if_pos (by omega), if_pos (by omega), refNum_eq _ k (by omega), Option.bind_some, refFirst_eq _ _ (by rw [ByteArray.size_extract]; omega) k (by omega), Option.bind_some]
        have hN : numAns (s.extract 0 2) = (num (L (s.extract 0 2)) 0, 0) := by
          unfold numAns
          rw [if_pos (by rw [ByteArray.size_extract]; omega)]
        rw [hN]
        by_cases h2 : (first (s.extract 2 s.size) 2).2.2 = 0
        · have h2' : (tstep s).1.2.2 = 0 := h2
          have hlt := tstep_less h2'
          rw [items_ok h1 h2', if_pos h2]
          show _ = some (if (first (s.extract 2 s.size) 2).2.2 = 0 then _ else _)
          rw [if_pos h2]
          by_cases h3 : acc.length = 64
          · rw [if_pos (by omega), if_pos h3]
          · rw [if_neg (by omega), if_neg h3, if_pos (by omega)]
            exact ih (tstep s).2 _ k (by omega) (by omega) (by rw [List.length_append, List.length_singleton]; omega) (by omega)
        · rw [items_bad h1 h2, if_neg h2]
          show _ = some (if (first (s.extract 2 s.size) 2).2.2 = 0 then _ else _)
          rw [if_neg h2, (first2_err (s.extract 2 s.size)).resolve_left h2]
theorem TlvReads : ∀ (a0 : ByteArray) (a1 : Int) (a2 : Int), a0.size ≤ 140737488351232 → (Lit.int .i64 a1).wf = true → (Lit.int .i64 a2).wf = true → ∃ k, wharflaw11_TlvReads.f k a0 a1 a2 = some true := by
  intro s w t hs _ _
  refine ⟨s.size + 100, ?_⟩
  have hl := live (s.size + 100) (by omega)
  have hlen := gather_len (items s) [] (Nat.zero_le _)
  have hP := refParse_loop s.size s [] (s.size + 100) (Nat.le_refl _) hs (Nat.zero_le _) (by omega)
  unfold wharflaw11_TlvReads.f tlv_Parse.f wharfref11_Parse.f parseTlv
  rw [hl, hP]
  simp only [Option.bind_some]
  rw [First_eq s w _ (by omega), refFirst_eq s w hs _ (by omega), Find_eq _ _ (by omega) _ (by omega), refFind_eq _ _ (by omega) _ (by omega), Same_eq _ _ (by omega) _ (by omega)]
  simp only [Option.bind_some, wharflaw11_num.f, if_true, decide_true, beq_self_eq_true]
  split <;> rfl
end Go.Proofs.Ytndcpbiofhclhaa.Pure
