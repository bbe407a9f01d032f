import Derived.Test.YtaplfbnjoifggaaHx10
import Derived.Test.YtaplfbnjoifggaaGood
import Derived.Test.YtaplfbnjoifggaaGlyphLive
namespace Go.Proofs.Ytaplfbnjoifggaa.Pure
open Go.RowKit Go.Proofs.Ytaplfbnjoifggaa.H Go.Proofs.YtaplfbnjoifggaaW.PrintWords Go.Proofs.YtaplfbnjoifggaaW.PrintLast Go.Proofs.YtaplfbnjoifggaaW.PrintMore Go.Proofs.Ytaplfbnjoifggaa.Utf Go.Proofs.Ytaplfbnjoifggaa.Bytes

theorem less_of {x y : Nat} (hx : x < 256) (hy : y < 256) : (UInt8.ofNat x < UInt8.ofNat y) ↔ x < y := by
  rw [UInt8.lt_iff_toNat_lt, toNat_of x hx, toNat_of y hy]
theorem same_of {x y : Nat} (hx : x < 256) (hy : y < 256) : (UInt8.ofNat x = UInt8.ofNat y) ↔ x = y := by
  rw [← UInt8.toNat_inj, toNat_of x hx, toNat_of y hy]
theorem enc_less (c d : Nat) (hc : Sign c) (hd : Sign d) : Op.bytesLess (enc c) (enc d) = decide (c < d) := by
  unfold Sign at hc hd
  rw [Bool.eq_iff_iff, decide_eq_true_iff]
  unfold enc
  by_cases c1 : c < 128 <;> by_cases d1 : d < 128
  · simp only [c1, d1, if_true, Op.bytesLess, Bool.and_false, Bool.or_false, decide_eq_true_iff]
    rw [less_of (by omega) (by omega)]
  · by_cases d2 : d < 2048
    · simp only [c1, d1, d2, if_true, if_false, Op.bytesLess, Bool.or_eq_true, Bool.and_eq_true, decide_eq_true_iff, beq_iff_eq]
      rw [less_of (by omega) (by omega), same_of (by omega) (by omega)]
      omega
    · by_cases d3 : d < 65536
      · simp only [c1, d1, d2, d3, if_true, if_false, Op.bytesLess, Bool.or_eq_true, Bool.and_eq_true, decide_eq_true_iff, beq_iff_eq]
        rw [less_of (by omega) (by omega), same_of (by omega) (by omega)]
        omega
      · simp only [c1, d1, d2, d3, if_true, if_false, Op.bytesLess, Bool.or_eq_true, Bool.and_eq_true, decide_eq_true_iff, beq_iff_eq]
        rw [less_of (by omega) (by omega), same_of (by omega) (by omega)]
        omega
  · by_cases c2 : c < 2048
    · simp only [c1, d1, c2, if_true, if_false, Op.bytesLess, Bool.and_false, Bool.or_false, decide_eq_true_iff]
      rw [less_of (by omega) (by omega)]
      omega
    · by_cases c3 : c < 65536
      · simp only [c1, d1, c2, c3, if_true, if_false, Op.bytesLess, Bool.and_false, Bool.or_false, decide_eq_true_iff]
        rw [less_of (by omega) (by omega)]
        omega
      · simp only [c1, d1, c2, c3, if_true, if_false, Op.bytesLess, Bool.and_false, Bool.or_false, decide_eq_true_iff]
        rw [less_of (by omega) (by omega)]
        omega
  · by_cases c2 : c < 2048 <;> by_cases d2 : d < 2048
    · simp only [c1, d1, c2, d2, if_true, if_false, Op.bytesLess, Bool.or_eq_true, Bool.and_eq_true, decide_eq_true_iff, beq_iff_eq, Bool.false_eq_true, and_false, or_false]
      rw [less_of (by omega) (by omega), same_of (by omega) (by omega), less_of (by omega) (by omega)]
      omega
    · by_cases d3 : d < 65536
      · simp only [c1, d1, c2, d2, d3, if_true, if_false, Op.bytesLess, Bool.or_eq_true, Bool.and_eq_true, decide_eq_true_iff, beq_iff_eq]
        rw [less_of (by omega) (by omega), same_of (by omega) (by omega)]
        omega
      · simp only [c1, d1, c2, d2, d3, if_true, if_false, Op.bytesLess, Bool.or_eq_true, Bool.and_eq_true, decide_eq_true_iff, beq_iff_eq]
        rw [less_of (by omega) (by omega), same_of (by omega) (by omega)]
        omega
    · by_cases c3 : c < 65536
      · simp only [c1, d1, c2, d2, c3, if_true, if_false, Op.bytesLess, Bool.or_eq_true, Bool.and_eq_true, decide_eq_true_iff, beq_iff_eq]
        rw [less_of (by omega) (by omega), same_of (by omega) (by omega)]
        omega
      · simp only [c1, d1, c2, d2, c3, if_true, if_false, Op.bytesLess, Bool.or_eq_true, Bool.and_eq_true, decide_eq_true_iff, beq_iff_eq]
        rw [less_of (by omega) (by omega), same_of (by omega) (by omega)]
        omega
    · by_cases c3 : c < 65536 <;> by_cases d3 : d < 65536
      · simp only [c1, d1, c2, d2, c3, d3, if_true, if_false, Op.bytesLess, Bool.or_eq_true, Bool.and_eq_true, decide_eq_true_iff, beq_iff_eq, Bool.false_eq_true, and_false, or_false]
        rw [less_of (by omega) (by omega), same_of (by omega) (by omega), less_of (by omega) (by omega), same_of (by omega) (by omega), less_of (by omega) (by omega)]
        omega
      · simp only [c1, d1, c2, d2, c3, d3, if_true, if_false, Op.bytesLess, Bool.or_eq_true, Bool.and_eq_true, decide_eq_true_iff, beq_iff_eq]
        rw [less_of (by omega) (by omega), same_of (by omega) (by omega)]
        omega
      · simp only [c1, d1, c2, d2, c3, d3, if_true, if_false, Op.bytesLess, Bool.or_eq_true, Bool.and_eq_true, decide_eq_true_iff, beq_iff_eq]
        rw [less_of (by omega) (by omega), same_of (by omega) (by omega)]
        omega
      · simp only [c1, d1, c2, d2, c3, d3, if_false, Op.bytesLess, Bool.or_eq_true, Bool.and_eq_true, decide_eq_true_iff, beq_iff_eq, Bool.false_eq_true, and_false, or_false]
        rw [less_of (by omega) (by omega), same_of (by omega) (by omega), less_of (by omega) (by omega), same_of (by omega) (by omega), less_of (by omega) (by omega), same_of (by omega) (by omega), less_of (by omega) (by omega)]
        omega
theorem enc_front {c d : Nat} (hc : Sign c) (hd : Sign d) {t : List UInt8} (h : enc d = enc c ++ t) : c = d := by
  have h1 := sgn_enc c hc t
  have h2 := sgn_enc d hd []
  rw [List.append_nil, h, h1] at h2
  exact (Prod.mk.inj (Option.some.inj h2)).1
theorem GlyphOrder : ∀ (a0 : Int) (a1 : Int), (Lit.int .i64 a0).wf = true → (Lit.int .i64 a1).wf = true → ∃ k, wharflaw01_GlyphOrder.f k a0 a1 = some true := by
  intro c d _ _
  refine ⟨40, ?_⟩
  unfold wharflaw01_GlyphOrder.f
  rw [live 40 (by omega), Utf.Put_eq, Utf.Put_eq]
  simp only [Option.bind_some, num_eq]
  by_cases hc : 0 ≤ c ∧ Sign c.toNat
  · by_cases hd : 0 ≤ d ∧ Sign d.toNat
    · obtain ⟨n, rfl⟩ : ∃ n : Nat, c = (n : Int) := ⟨c.toNat, by omega⟩
      obtain ⟨m, rfl⟩ : ∃ m : Nat, d = (m : Int) := ⟨d.toNat, by omega⟩
      rw [if_pos hc, if_pos hd]
      rw [Int.toNat_natCast] at hc hd
      have hn := hc.2
      have hm := hd.2
      dsimp only
      rw [if_pos (show wrap64 (0 + 0) = 0 by unfold wrap64; decide)]
      have e1 := enc_encode n hn
      have e2 := enc_encode m hm
      have hl : Op.bytesLess (Utf8.encode (n : Int)).toList (Utf8.encode (m : Int)).toList = decide ((n : Int) < (m : Int)) := by
        rw [toList_L, toList_L, e1, e2, enc_less n m hn hm]
        exact decide_eq_decide.mpr (by omega)
      simp only [hl, bne_self_eq_false, Bool.false_eq_true, if_false]
      have he : ((Utf8.encode (n : Int)).toList == (Utf8.encode (m : Int)).toList) = ((n : Int) == (m : Int)) := by
        rw [Bool.eq_iff_iff, beq_iff_eq, beq_iff_eq, toList_L, toList_L, e1, e2]
        constructor
        · intro h
          have := enc_front (t := []) hn hm (by rw [h, List.append_nil])
          omega
        · intro h
          rw [show n = m by omega]
      simp only [he, bne_self_eq_false, Bool.false_eq_true, if_false]
      split
      · rfl
      · rename_i hne
        split
        · rfl
        · rename_i hle
          rw [if_pos (by omega), if_pos (by omega), if_neg]
          rw [toList_L, toList_L, L_head, e1, e2]
          intro h
          have hx : enc m = enc n ++ (enc m).drop ((Utf8.encode (n : Int)).size) := by
            have := List.take_append_drop ((Utf8.encode (n : Int)).size) (enc m)
            rw [h] at this
            exact this.symm
          have := enc_front hn hm hx
          omega
    · rw [if_pos hc, if_neg hd]
      dsimp only
      rw [if_neg (show ¬ wrap64 (0 + 10) = 0 by unfold wrap64; decide)]
  · rw [if_neg hc]
    by_cases hd : 0 ≤ d ∧ Sign d.toNat
    · rw [if_pos hd]
      dsimp only
      rw [if_neg (show ¬ wrap64 (10 + 0) = 0 by unfold wrap64; decide)]
    · rw [if_neg hd]
      dsimp only
      rw [if_neg (show ¬ wrap64 (10 + 10) = 0 by unfold wrap64; decide)]
end Go.Proofs.Ytaplfbnjoifggaa.Pure
