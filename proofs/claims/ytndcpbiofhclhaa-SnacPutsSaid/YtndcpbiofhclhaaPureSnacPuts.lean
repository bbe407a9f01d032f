import Derived.Test.YtndcpbiofhclhaaHx3
import Derived.Test.YtndcpbiofhclhaaGood
import Derived.Test.YtndcpbiofhclhaaSnac
import Derived.Test.YtndcpbiofhclhaaTlvRef
namespace Go.Proofs.Ytndcpbiofhclhaa.Pure
open Go.RowKit Go.Proofs.Ytndcpbiofhclhaa.H Go.Proofs.YtndcpbiofhclhaaW.PrintWords Go.Proofs.YtndcpbiofhclhaaW.PrintLast Go.Proofs.YtndcpbiofhclhaaW.PrintMore Go.Proofs.Ytndcpbiofhclhaa.Snac Go.Proofs.Ytndcpbiofhclhaa.Bytes Go.Proofs.Ytndcpbiofhclhaa.Tlv

theorem snac_fits_iff (a b c d : Int) : snacFits a b c d = true ↔ (0 ≤ a ∧ a ≤ 65535) ∧ (0 ≤ b ∧ b ≤ 65535) ∧ (0 ≤ c ∧ c ≤ 65535) ∧ 0 ≤ d ∧ d ≤ 4294967295 := by
  unfold snacFits
  rw [Bool.and_eq_true, Bool.and_eq_true, Bool.and_eq_true, fits_iff, fits_iff, fits_iff, fits_iff]
  omega
theorem two_eq (a : Int) : wharfref13_two.f a = some (decide (0 ≤ a ∧ a ≤ 65535)) := by
  unfold wharfref13_two.f
  by_cases h : a ≥ 0
  · rw [if_pos h]
    congr 1
    rw [Bool.eq_iff_iff, decide_eq_true_iff, decide_eq_true_iff]
    omega
  · rw [if_neg h, decide_eq_false (by omega)]
theorem refCheck_eq (a b c d : Int) (s : ByteArray) (k : Nat) (hk : 1 ≤ k) : wharfref13_Check.f k a b c d s = some (check a b c d s) := by
  obtain ⟨k, rfl⟩ : ∃ m, k = m + 1 := ⟨k - 1, by omega⟩
  have ht : wharfref13_Check.j0 (k + 1) true a b c d s = some 2 := by simp only [wharfref13_Check.j0]; rw [if_pos trivial]
  have hf : wharfref13_Check.j0 (k + 1) false a b c d s = some (if (s.size : Int) > 8182 then 1 else 0) := by
    simp only [wharfref13_Check.j0]
    rw [if_neg Bool.false_ne_true]
    split <;> rfl
  unfold wharfref13_Check.f check
  rw [two_eq, two_eq, two_eq, Option.bind_some, ht]
  have hi := snac_fits_iff a b c d
  by_cases ha : 0 ≤ a ∧ a ≤ 65535
  · rw [decide_eq_true ha, if_pos rfl, Option.bind_some]
    by_cases hb : 0 ≤ b ∧ b ≤ 65535
    · rw [decide_eq_true hb, if_pos rfl, Option.bind_some]
      by_cases hc : 0 ≤ c ∧ c ≤ 65535
      · rw [decide_eq_true hc, if_pos rfl]
        by_cases hd : d < 0
        · rw [if_pos hd, if_neg (fun h => by have := hi.mp h; omega)]
        · rw [if_neg hd]
          by_cases he : d > 4294967295
          · rw [decide_eq_true he, ht, if_neg (fun h => by have := hi.mp h; omega)]
          · rw [decide_eq_false he, hf, if_pos (hi.mpr ⟨ha, hb, hc, by omega, by omega⟩)]
      · rw [decide_eq_false hc, if_neg Bool.false_ne_true, if_neg (fun h => hc (hi.mp h).2.2.1)]
    · rw [decide_eq_false hb, if_neg Bool.false_ne_true, if_neg (fun h => hb (hi.mp h).2.1)]
  · rw [decide_eq_false ha, if_neg Bool.false_ne_true, if_neg (fun h => ha (hi.mp h).1)]
theorem refPut_eq (a b c d : Int) (s : ByteArray) (hz : s.size ≤ 140737488351232) (k : Nat) (hk : 8 ≤ k) : wharfref13_Put.f k a b c d s = some (put a b c d s) := by
  unfold wharfref13_Put.f put
  rw [refCheck_eq a b c d s k (by omega), Option.bind_some]
  unfold check
  by_cases hf : snacFits a b c d = true
  · rw [if_pos hf, if_pos hf]
    by_cases hs : (s.size : Int) > 8182
    · rw [if_pos hs, if_pos hs, if_neg (by decide)]
    · rw [if_neg hs, if_neg hs, if_pos rfl]
      obtain ⟨fa, fb, fc, fd⟩ := fits_all hf
      rw [refInt_eq a 2 k hk, refInt_eq b 2 k hk, refInt_eq c 2 k hk, refInt_eq d 4 k hk, if_pos fa, if_pos fb, if_pos fc, if_pos fd]
      simp only [Option.bind_some]
      have z1 := bytes_size a 2 (by omega)
      have z2 := bytes_size b 2 (by omega)
      have z3 := bytes_size c 2 (by omega)
      have z4 := bytes_size d 4 (by omega)
      rw [if_pos (by omega), if_pos (by rw [ByteArray.size_append]; omega), if_pos (by rw [ByteArray.size_append, ByteArray.size_append]; omega), if_pos (by rw [ByteArray.size_append, ByteArray.size_append, ByteArray.size_append]; omega)]
      rfl
  · rw [if_neg hf, if_neg hf, if_neg (by decide)]
theorem refParse_eq (b : ByteArray) (k : Nat) (hk : 9 ≤ k) : wharfref13_Parse.f k b = some (parse b) := by
  obtain ⟨k, rfl⟩ : ∃ m, k = m + 1 := ⟨k - 1, by omega⟩
  have ht : wharfref13_Parse.j0 (k + 1) b true = some (0, 0, 0, 0, ⟨#[]⟩, 130) := by simp only [wharfref13_Parse.j0]; rw [if_pos trivial]
  unfold wharfref13_Parse.f parse
  by_cases h0 : (b.size : Int) < 10
  · rw [if_pos h0, if_pos (Or.inl h0), ht]
  · rw [if_neg h0]
    by_cases h1 : (b.size : Int) > 8192
    · rw [decide_eq_true h1, ht, if_pos (Or.inr h1)]
    · rw [decide_eq_false h1, if_neg (by omega)]
      have e2 : ∀ i j, i + 2 = j → j ≤ 10 → numAns (b.extract i j) = (num (L (b.extract i j)) 0, 0) := fun i j h h' => by
        unfold numAns
        rw [if_pos (Or.inr (Or.inl (by rw [ByteArray.size_extract]; omega)))]
      have e4 : numAns (b.extract 6 10) = (num (L (b.extract 6 10)) 0, 0) := by
        unfold numAns
        rw [if_pos (Or.inr (Or.inr (by rw [ByteArray.size_extract]; omega)))]
      simp only [wharfref13_Parse.j0]
      rw [if_neg Bool.false_ne_true, refNum_eq _ k (by omega), refNum_eq _ k (by omega), refNum_eq _ k (by omega), refNum_eq _ k (by omega), e2 0 2 rfl (by omega), e2 2 4 rfl (by omega), e2 4 6 rfl (by omega), e4]
      simp only [Option.bind_some]
      rw [if_pos (by omega), if_pos (by omega), if_pos (by omega), if_pos (by omega), if_pos (by omega), if_pos (by omega), if_pos (by omega), if_pos (by omega)]
theorem SnacPuts : ∀ (a0 : S23) (a1 : ByteArray) (a2 : Int) (a3 : Int), good23 a0 → a1.size ≤ 140737488351232 → (Lit.int .i64 a2).wf = true → (Lit.int .i64 a3).wf = true → ∃ k, wharflaw13_SnacPuts.f k a0.f0 a0.f1 a0.f2 a0.f3 a0.f4 a1 a2 a3 = some true := by
  intro s b fa su hg hb _ _
  refine ⟨101, ?_⟩
  generalize hK : (101 : Nat) = K
  have hz : s.f4.size ≤ 140737488351232 := hg.2.2.2.2
  have hl : wharflaw13_live.f K = some true := live K (by omega)
  unfold wharflaw13_SnacPuts.f
  rw [hl]
  split
  · rfl
  rw [Put_eq, refPut_eq _ _ _ _ _ hz K (by omega), Parse_eq b K (by omega), refParse_eq b K (by omega), Check_eq, refCheck_eq _ _ _ _ _ K (by omega)]
  rw [Option.bind_some, Option.bind_some, Option.bind_some, Option.bind_some, if_pos rfl]
  generalize put s.f0 s.f1 s.f2 s.f3 s.f4 = p
  generalize parse b = q
  have hc : snac_Class.f fa su = wharfref13_Class.f fa su := rfl
  obtain ⟨c, hc'⟩ : ∃ c, wharfref13_Class.f fa su = some c := by
    unfold wharfref13_Class.f
    split
    · exact ⟨_, rfl⟩
    · split <;> exact ⟨_, rfl⟩
  simp only [wharflaw13_num.f, Option.bind_some, hc, hc', if_true, beq_self_eq_true, Bool.and_self]
end Go.Proofs.Ytndcpbiofhclhaa.Pure
