import Derived.Test.YtndcpbiofhclhaaHx4
import Derived.Test.YtndcpbiofhclhaaGood
import Derived.Test.YtndcpbiofhclhaaSnac
namespace Go.Proofs.Ytndcpbiofhclhaa.Pure
open Go.RowKit Go.Proofs.Ytndcpbiofhclhaa.H Go.Proofs.YtndcpbiofhclhaaW.PrintWords Go.Proofs.YtndcpbiofhclhaaW.PrintLast Go.Proofs.YtndcpbiofhclhaaW.PrintMore Go.Proofs.Ytndcpbiofhclhaa.Snac Go.Proofs.Ytndcpbiofhclhaa.Bytes Go.Proofs.Ytndcpbiofhclhaa.Tlv

theorem back_j0 (b : ByteArray) : wharflaw13_SnacBack.j0 (100 + 1) b = some true := by
  simp only [wharflaw13_SnacBack.j0]
  rw [Parse_eq b 100 (by omega), live 100 (by omega)]
  simp only [Option.bind_some, wharflaw13_num.f]
  by_cases h : (b.size : Int) < 10 ∨ (b.size : Int) > 8192
  · have e : parse b = (0, 0, 0, 0, ⟨#[]⟩, 130) := by unfold parse; rw [if_pos h]
    rw [e]
    simp [toList_L, L]
  · have e : parse b = (num (L (b.extract 0 2)) 0, num (L (b.extract 2 4)) 0, num (L (b.extract 4 6)) 0, num (L (b.extract 6 10)) 0, b.extract 10 b.size, 0) := by unfold parse; rw [if_neg h]
    obtain ⟨hf, hb⟩ := put_parse b (by omega) (by omega)
    have hs : ¬ ((b.extract 10 b.size).size : Int) > 8182 := by rw [ByteArray.size_extract]; omega
    rw [e]
    simp only [if_true]
    rw [Put_eq]
    have ep : put (num (L (b.extract 0 2)) 0) (num (L (b.extract 2 4)) 0) (num (L (b.extract 4 6)) 0) (num (L (b.extract 6 10)) 0) (b.extract 10 b.size) = (b, 0) := by
      unfold put
      rw [if_pos hf, if_neg hs, hb]
    rw [ep]
    simp only [Option.bind_some, if_true]
    rw [Check_eq]
    have ec : check (num (L (b.extract 0 2)) 0) (num (L (b.extract 2 4)) 0) (num (L (b.extract 4 6)) 0) (num (L (b.extract 6 10)) 0) (b.extract 10 b.size) = 0 := by
      unfold check
      rw [if_pos hf, if_neg hs]
    rw [ec]
    rfl

theorem SnacBack : ∀ (a0 : S23) (a1 : ByteArray), good23 a0 → a1.size ≤ 140737488351232 → ∃ k, wharflaw13_SnacBack.f k a0.f0 a0.f1 a0.f2 a0.f3 a0.f4 a1 = some true := by
  intro s b hg hb
  refine ⟨101, ?_⟩
  have hz : s.f4.size ≤ 140737488351232 := hg.2.2.2.2
  have hj := back_j0 b
  have hl : wharflaw13_live.f 101 = some true := live 101 (by omega)
  unfold wharflaw13_SnacBack.f
  rw [hj, hl, Put_eq]
  rw [wrap_id _ (by omega) (by omega), wrap_id _ (by omega) (by omega)]
  split
  · rfl
  simp only [Option.bind_some, wharflaw13_num.f]
  split
  · rename_i hp
    rw [Parse_eq _ 101 (by omega)]
    simp only [Option.bind_some]
    unfold put at hp ⊢
    split at hp
    · split at hp
      · cases hp
      · rename_i hf hs
        rw [if_pos hf, if_neg hs]
        have e := parse_put s.f4 hf (by omega)
        dsimp only
        rw [e]
        simp [head_len]
    · cases hp
  · rfl
end Go.Proofs.Ytndcpbiofhclhaa.Pure
