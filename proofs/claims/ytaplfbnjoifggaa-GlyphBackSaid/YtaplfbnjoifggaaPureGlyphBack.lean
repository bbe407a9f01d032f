import Derived.Test.YtaplfbnjoifggaaHx6
import Derived.Test.YtaplfbnjoifggaaGood
import Derived.Test.YtaplfbnjoifggaaGlyphLive
namespace Go.Proofs.Ytaplfbnjoifggaa.Pure
open Go.RowKit Go.Proofs.Ytaplfbnjoifggaa.H Go.Proofs.YtaplfbnjoifggaaW.PrintWords Go.Proofs.YtaplfbnjoifggaaW.PrintLast Go.Proofs.YtaplfbnjoifggaaW.PrintMore Go.Proofs.Ytaplfbnjoifggaa.Utf Go.Proofs.Ytaplfbnjoifggaa.Bytes

theorem cut_none {c : Nat} (hc : Sign c) (k : Nat) (hk : k < width c) : sgn ((enc c).take k) = none := by
  cases h : sgn ((enc c).take k) with
  | none => rfl
  | some p =>
    obtain ⟨d, n⟩ := p
    obtain ⟨hd, _, t, ht⟩ := enc_sgn h
    have hx : enc c = enc d ++ (t ++ (enc c).drop k) := by
      rw [← List.append_assoc, ← ht, List.take_append_drop]
    have h1 := sgn_enc d hd (t ++ (enc c).drop k)
    have h2 := sgn_enc c hc []
    rw [List.append_nil, hx, h1] at h2
    obtain ⟨rfl, _⟩ := Prod.mk.inj (Option.some.inj h2)
    have := congrArg List.length ht
    rw [List.length_take, List.length_append, enc_length] at this
    omega
theorem back_j1 (c : Nat) (hc : Sign c) (b : ByteArray) (hb : L b = enc c) (cut : Int) (k : Nat) (hk : 40 ≤ k) : wharflaw01_GlyphBack.j1 (k + 1) cut b (decide (cut ≥ (b.size : Int))) = some true ∨ cut < 0 := by
  by_cases h0 : cut < 0
  · exact Or.inr h0
  · refine Or.inl ?_
    have hl := live k (by omega)
    have hz : b.size = width c := by rw [size_L, hb, enc_length]
    simp only [wharflaw01_GlyphBack.j1]
    by_cases h1 : cut ≥ (b.size : Int)
    · rw [if_pos (decide_eq_true h1), hl]
      rfl
    · rw [if_neg (by simpa using h1), if_pos (by omega), if_pos (by omega), hl, First_eq, L_head, hb]
      unfold firstAns
      rw [cut_none hc _ (by omega)]
      rfl
theorem back_j0 (c : Nat) (hc : Sign c) (b : ByteArray) (hb : L b = enc c) (cut : Int) (k : Nat) (hk : 50 ≤ k) : wharflaw01_GlyphBack.j0 k cut b false = some true := by
  obtain ⟨k, rfl⟩ : ∃ m, k = m + 2 := ⟨k - 2, by omega⟩
  simp only [wharflaw01_GlyphBack.j0]
  rw [if_neg Bool.false_ne_true]
  by_cases h0 : cut < 0
  · rw [if_pos h0]
    simp only [wharflaw01_GlyphBack.j1]
    rw [live k (by omega)]
    rfl
  · rw [if_neg h0]
    rcases back_j1 c hc b hb cut k (by omega) with h | h
    · exact h
    · exact absurd h h0
theorem GlyphBack : ∀ (a0 : Int) (a1 : ByteArray) (a2 : Int), (Lit.int .i64 a0).wf = true → a1.size ≤ 140737488351232 → (Lit.int .i64 a2).wf = true → ∃ k, wharflaw01_GlyphBack.f k a0 a1 a2 = some true := by
  intro c s cut _ hs _
  refine ⟨60, ?_⟩
  unfold wharflaw01_GlyphBack.f
  rw [live 60 (by omega), Utf.Put_eq]
  simp only [Option.bind_some, num_eq]
  split
  · rfl
  by_cases hc : 0 ≤ c ∧ Sign c.toNat
  · obtain ⟨n, rfl⟩ : ∃ n : Nat, c = (n : Int) := ⟨c.toNat, by omega⟩
    rw [if_pos hc]
    rw [Int.toNat_natCast] at hc
    have hn := hc.2
    have he := enc_encode n hn
    have hz : (Utf8.encode (n : Int)).size = width n := by rw [size_L, he, enc_length]
    have hw := Utf.width_pos n
    have hj := back_j0 n hn _ he cut 60 (by omega)
    dsimp only
    generalize Utf8.encode (n : Int) = b at he hz hj ⊢
    rw [if_pos rfl, if_pos (by omega), First_eq, L_append, he]
    unfold firstAns
    rw [sgn_enc n hn]
    simp only [Option.bind_some]
    rw [if_pos trivial, if_pos trivial, if_pos (by omega), if_neg (by omega), decide_eq_false (by omega)]
    exact hj
  · rw [if_neg hc]
    dsimp only
    rw [if_neg (by decide), toList_L, if_pos rfl]
end Go.Proofs.Ytaplfbnjoifggaa.Pure
