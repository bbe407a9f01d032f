import Derived.Test.YtndcpbiofhclhaaHx5
import Derived.Test.YtndcpbiofhclhaaGood
import Derived.Test.YtndcpbiofhclhaaSnac
namespace Go.Proofs.Ytndcpbiofhclhaa.Pure
open Go.RowKit Go.Proofs.Ytndcpbiofhclhaa.H Go.Proofs.YtndcpbiofhclhaaW.PrintWords Go.Proofs.YtndcpbiofhclhaaW.PrintLast Go.Proofs.YtndcpbiofhclhaaW.PrintMore Go.Proofs.Ytndcpbiofhclhaa.Snac Go.Proofs.Ytndcpbiofhclhaa.Bytes Go.Proofs.Ytndcpbiofhclhaa.Tlv

theorem SnacApart : ∀ (a0 : S23) (a1 : S23), good23 a0 → good23 a1 → ∃ k, wharflaw13_SnacApart.f k a0.f0 a0.f1 a0.f2 a0.f3 a0.f4 a1.f0 a1.f1 a1.f2 a1.f3 a1.f4 = some true := by
  intro s t hs ht
  refine ⟨101, ?_⟩
  have hl : wharflaw13_live.f 101 = some true := live 101 (by omega)
  unfold wharflaw13_SnacApart.f
  rw [hl, Put_eq, Put_eq]
  simp only [Option.bind_some, wharflaw13_num.f]
  split
  · rfl
  split
  · rename_i hp
    have e2 : ∀ (a b c d : Int) (x : ByteArray), (put a b c d x).2 = 0 ∨ (put a b c d x).2 = 1 ∨ (put a b c d x).2 = 2 := by
      intro a b c d x
      unfold put
      split
      · split
        · exact Or.inr (Or.inl rfl)
        · exact Or.inl rfl
      · exact Or.inr (Or.inr rfl)
    have g1 := e2 s.f0 s.f1 s.f2 s.f3 s.f4
    have g2 := e2 t.f0 t.f1 t.f2 t.f3 t.f4
    rw [wrap_id _ (by omega) (by omega)] at hp
    have p1 : (put s.f0 s.f1 s.f2 s.f3 s.f4).2 = 0 := by omega
    have p2 : (put t.f0 t.f1 t.f2 t.f3 t.f4).2 = 0 := by omega
    have ok : ∀ (a b c d : Int) (x : ByteArray), (put a b c d x).2 = 0 → snacFits a b c d = true ∧ (x.size : Int) ≤ 8182 ∧ (put a b c d x).1 = snacHead a b c d ++ x := by
      intro a b c d x h
      unfold put at h ⊢
      split at h
      · split at h
        · cases h
        · rename_i hf hz
          rw [if_pos hf, if_neg hz]
          exact ⟨hf, by omega, rfl⟩
      · cases h
    obtain ⟨f1, z1, q1⟩ := ok _ _ _ _ _ p1
    obtain ⟨f2, z2, q2⟩ := ok _ _ _ _ _ p2
    rw [q1, q2]
    have hiff : (snacHead s.f0 s.f1 s.f2 s.f3 ++ s.f4 = snacHead t.f0 t.f1 t.f2 t.f3 ++ t.f4) ↔ (s.f0 = t.f0 ∧ s.f1 = t.f1 ∧ s.f2 = t.f2 ∧ s.f3 = t.f3 ∧ s.f4 = t.f4) := by
      constructor
      · intro h
        have e1 := parse_put s.f4 f1 z1
        rw [h, parse_put t.f4 f2 z2] at e1
        simp only [Prod.mk.injEq] at e1
        obtain ⟨a, b, c, d, e, _⟩ := e1
        exact ⟨a.symm, b.symm, c.symm, d.symm, e.symm⟩
      · rintro ⟨a, b, c, d, e⟩
        rw [a, b, c, d, e]
    rw [if_pos]
    have e3 : ((snacHead s.f0 s.f1 s.f2 s.f3 ++ s.f4).toList == (snacHead t.f0 t.f1 t.f2 t.f3 ++ t.f4).toList) = decide (snacHead s.f0 s.f1 s.f2 s.f3 ++ s.f4 = snacHead t.f0 t.f1 t.f2 t.f3 ++ t.f4) := by
      rw [Bool.eq_iff_iff, beq_iff_eq, toList_inj, decide_eq_true_iff]
    have e4 : (s.f0 == t.f0 && (s.f1 == t.f1 && (s.f2 == t.f2 && (s.f3 == t.f3 && (s.f4.toList == t.f4.toList))))) = decide (s.f0 = t.f0 ∧ s.f1 = t.f1 ∧ s.f2 = t.f2 ∧ s.f3 = t.f3 ∧ s.f4 = t.f4) := by
      rw [Bool.eq_iff_iff, decide_eq_true_iff]
      simp only [Bool.and_eq_true, beq_iff_eq, toList_inj]
    rw [e3, e4, beq_iff_eq, Bool.eq_iff_iff, decide_eq_true_iff, decide_eq_true_iff]
    exact hiff
  · rfl
end Go.Proofs.Ytndcpbiofhclhaa.Pure
