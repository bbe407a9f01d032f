import Derived.Test.YtndcpbiofhclhaaHx6
import Derived.Test.YtndcpbiofhclhaaGood
import Derived.Test.YtndcpbiofhclhaaSnac
namespace Go.Proofs.Ytndcpbiofhclhaa.Pure
open Go.RowKit Go.Proofs.Ytndcpbiofhclhaa.H Go.Proofs.YtndcpbiofhclhaaW.PrintWords Go.Proofs.YtndcpbiofhclhaaW.PrintLast Go.Proofs.YtndcpbiofhclhaaW.PrintMore Go.Proofs.Ytndcpbiofhclhaa.Snac Go.Proofs.Ytndcpbiofhclhaa.Bytes Go.Proofs.Ytndcpbiofhclhaa.Tlv

theorem heads_j0 (a b c d : Int) (s t : ByteArray) (hs : s.size ≤ 140737488351232) (ht : t.size ≤ 140737488351232) : wharflaw13_SnacHeads.j0 (101 + 1) t false a b c d s = some true := by
  simp only [wharflaw13_SnacHeads.j0]
  have hl : wharflaw13_live.f 101 = some true := live 101 (by omega)
  have hl0 : wharflaw13_live.f 100 = some true := live 100 (by omega)
  rw [if_neg (by decide), hl, Put_eq, Put_eq]
  simp only [Option.bind_some, wharflaw13_num.f]
  split
  · rename_i hp
    have e2 : ∀ (a b c d : Int) (x : ByteArray), (put a b c d x).2 = 0 ∨ (put a b c d x).2 = 1 ∨ (put a b c d x).2 = 2 := by
      intro a b c d x
      unfold put
      split
      · split
        · exact Or.inr (Or.inl rfl)
        · exact Or.inl rfl
      · exact Or.inr (Or.inr rfl)
    have g1 := e2 a b c d s
    have g2 := e2 a b c d t
    rw [wrap_id _ (by omega) (by omega)] at hp
    have p1 : (put a b c d s).2 = 0 := by omega
    have p2 : (put a b c d t).2 = 0 := by omega
    have ok : ∀ (x : ByteArray), (put a b c d x).2 = 0 → snacFits a b c d = true ∧ (x.size : Int) ≤ 8182 ∧ (put a b c d x).1 = snacHead a b c d ++ x := by
      intro x h
      unfold put at h ⊢
      split at h
      · split at h
        · cases h
        · rename_i hf hz
          rw [if_pos hf, if_neg hz]
          exact ⟨hf, by omega, rfl⟩
      · cases h
    obtain ⟨f1, z1, q1⟩ := ok _ p1
    obtain ⟨f2, z2, q2⟩ := ok _ p2
    rw [q1, q2]
    have hh := head_len a b c d
    have hx : ∀ x : ByteArray, (snacHead a b c d ++ x).extract 0 10 = snacHead a b c d := by
      intro x
      apply L_inj
      rw [L_head, L_append, List.take_append_of_le_length (by rw [← size_L]; omega), List.take_of_length_le (by rw [← size_L]; omega)]
    have hy : ∀ x : ByteArray, (snacHead a b c d ++ x).extract 10 (snacHead a b c d ++ x).size = x := by
      intro x
      apply L_inj
      rw [L_tail, L_append, List.drop_append_of_le_length (by rw [← size_L]; omega), List.drop_of_length_le (by rw [← size_L]; omega), List.nil_append]
    rw [if_neg (by rw [ByteArray.size_append]; omega)]
    simp only [wharflaw13_SnacHeads.j1]
    rw [decide_eq_false (by rw [ByteArray.size_append]; omega), if_neg (by decide), if_pos (by decide), if_pos (by rw [ByteArray.size_append]; omega), hx, hx, hy, if_pos (by omega), Parse_eq _ 100 (by omega), parse_put t f1 z2, hl0]
    simp only [Option.bind_some]
    rw [if_pos (by rw [ByteArray.size_append]; omega), if_pos trivial, if_pos trivial]
    simp [wharflaw13_num.f]
  · rfl

theorem SnacHeads : ∀ (a0 : S23) (a1 : ByteArray) (a2 : Int) (a3 : Int), good23 a0 → a1.size ≤ 140737488351232 → (Lit.int .i64 a2).wf = true → (Lit.int .i64 a3).wf = true → ∃ k, wharflaw13_SnacHeads.f k a0.f0 a0.f1 a0.f2 a0.f3 a0.f4 a1 a2 a3 = some true := by
  intro s t fam sb hg ht _ _
  refine ⟨102, ?_⟩
  have hz : s.f4.size ≤ 140737488351232 := hg.2.2.2.2
  have hj := heads_j0 s.f0 s.f1 s.f2 s.f3 s.f4 t hz ht
  have hl : wharflaw13_live.f 102 = some true := live 102 (by omega)
  unfold wharflaw13_SnacHeads.f
  rw [hl]
  split
  · rfl
  have hc : ∃ c, snac_Class.f fam sb = some c ∧ 1 ≤ c ∧ c ≤ 3 := by
    unfold snac_Class.f
    split
    · exact ⟨2, rfl, by omega, by omega⟩
    · split
      · exact ⟨3, rfl, by omega, by omega⟩
      · exact ⟨1, rfl, by omega, by omega⟩
  obtain ⟨c, hc, c1, c3⟩ := hc
  rw [hc]
  simp only [Option.bind_some]
  rw [if_neg (by omega), decide_eq_false (by omega)]
  exact hj
end Go.Proofs.Ytndcpbiofhclhaa.Pure
