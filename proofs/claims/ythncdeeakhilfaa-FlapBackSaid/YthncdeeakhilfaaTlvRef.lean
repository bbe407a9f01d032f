/-
  What wharfref11.Int and Num compute: what tlv.Int and tlv.Num do.
-/
import Derived.Test.YthncdeeakhilfaaTlv
import Derived.Test.YthncdeeakhilfaaHx26
import Derived.Test.YthncdeeakhilfaaHx23
namespace Go.Proofs.Ythncdeeakhilfaa.Tlv
open Go.RowKit Go.Proofs.YthncdeeakhilfaaW.PrintWords Go.Proofs.Ythncdeeakhilfaa.H Go.Proofs.Ythncdeeakhilfaa.Bytes

theorem width_eq (w : Int) : wharfref11_width.f w = some (decide (w = 1 ∨ w = 2 ∨ w = 4)) := by
  unfold wharfref11_width.f
  by_cases h1 : w = 1
  · rw [if_pos h1, decide_eq_true (Or.inl h1)]
  · rw [if_neg h1]
    by_cases h2 : w = 2
    · rw [if_pos h2, decide_eq_true (Or.inr (Or.inl h2))]
    · rw [if_neg h2]
      by_cases h4 : w = 4
      · rw [decide_eq_true (Or.inr (Or.inr h4)), h4]; rfl
      · rw [decide_eq_false (by omega)]
        have : (w == 4) = false := beq_eq_false_iff_ne.mpr h4
        rw [this]
theorem ref_step (k : Nat) (n : Int) (l : List Int) (i : Int) (h0 : 0 ≤ n) (h1 : n < 4294967296) (hi : 0 ≤ i) (hl : i < (l.length : Int)) (hs : i < 4) : wharfref11_Int.l0 (k + 1) n l i = wharfref11_Int.l0 k (n / 256) (l.set i.toNat (n % 256)) (i - 1) := by
  simp only [wharfref11_Int.l0]
  have e1 : Int.tdiv n 256 = n / 256 := by rw [Int.tdiv_eq_ediv_of_nonneg h0]
  have e2 : Int.tmod n 256 % 256 = n % 256 := by rw [Int.tmod_eq_emod_of_nonneg h0, Int.emod_emod]
  rw [if_pos (by omega), if_pos hi, if_pos hl, e1, e2, wrap_id _ (by omega) (by omega), wrap_id _ (by omega) (by omega)]
theorem ref_end (k : Nat) (n : Int) (l : List Int) : wharfref11_Int.l0 (k + 1) n l (-1) = some (strOfNums l, 0) := by
  simp only [wharfref11_Int.l0]
  rw [if_neg (by omega)]
theorem refInt_eq (n w : Int) (k : Nat) (hk : 8 ≤ k) : wharfref11_Int.f k n w = some (if tlvFits n w = true then (nbytes n w, 0) else (⟨#[]⟩, 2)) := by
  obtain ⟨k, rfl⟩ : ∃ m, k = m + 1 := ⟨k - 1, by omega⟩
  unfold wharfref11_Int.f
  rw [width_eq, Option.bind_some]
  by_cases hw : w = 1 ∨ w = 2 ∨ w = 4
  · rw [if_pos (by rw [decide_eq_true_iff]; exact hw)]
    by_cases h0 : n < 0
    · rw [if_pos h0]
      simp only [wharfref11_Int.j0]
      rw [if_pos trivial, if_neg (fun h => by have := ((fits_iff n w).mp h).1; omega)]
    · rw [if_neg h0]
      have key : ∀ (W lim : Int), (W = 1 ∧ lim = 256 ∨ W = 2 ∧ lim = 65536 ∨ W = 4 ∧ lim = 4294967296) → 0 ≤ wrap64 (8 * W) ∧ shl .i64 1 (wrap64 (8 * W)) = lim := by
        intro W lim h
        rcases h with ⟨rfl, rfl⟩ | ⟨rfl, rfl⟩ | ⟨rfl, rfl⟩ <;> exact ⟨by decide +kernel, by decide +kernel⟩
      obtain ⟨lim, hlim⟩ : ∃ lim, (w = 1 ∧ lim = 256 ∨ w = 2 ∧ lim = 65536 ∨ w = 4 ∧ lim = (4294967296 : Int)) := by
        rcases hw with h | h | h
        · exact ⟨256, Or.inl ⟨h, rfl⟩⟩
        · exact ⟨65536, Or.inr (Or.inl ⟨h, rfl⟩)⟩
        · exact ⟨4294967296, Or.inr (Or.inr ⟨h, rfl⟩)⟩
      obtain ⟨k0, k1⟩ := key w lim hlim
      rw [if_pos k0, k1]
      simp only [wharfref11_Int.j0]
      by_cases hb : n ≥ lim
      · rw [decide_eq_true hb, if_pos rfl, if_neg (fun h => by have := ((fits_iff n w).mp h).2; omega)]
      · rw [decide_eq_false hb, if_neg Bool.false_ne_true, if_pos (by omega), if_pos (by omega), if_pos ((fits_iff n w).mpr ⟨by omega, by omega⟩)]
        obtain ⟨k, rfl⟩ : ∃ m, k = m + 5 := ⟨k - 5, by omega⟩
        unfold nbytes
        rcases hlim with ⟨rfl, rfl⟩ | ⟨rfl, rfl⟩ | ⟨rfl, rfl⟩
        · rw [show List.replicate (1 : Int).toNat (0 : Int) = [0] from rfl, show wrap64 ((1 : Int) - 1) = 0 from by decide +kernel]
          rw [ref_step _ _ _ _ (by omega) (by omega) (by omega) (by decide) (by omega), show (0 : Int) - 1 = -1 from rfl, ref_end]
          rfl
        · rw [show List.replicate (2 : Int).toNat (0 : Int) = [0, 0] from rfl, show wrap64 ((2 : Int) - 1) = 1 from by decide +kernel]
          rw [ref_step _ _ _ _ (by omega) (by omega) (by omega) (by decide) (by omega), show (1 : Int) - 1 = 0 from rfl]
          rw [ref_step _ _ _ _ (by omega) (by omega) (by omega) (by rw [List.length_set]; decide) (by omega), show (0 : Int) - 1 = -1 from rfl, ref_end]
          rfl
        · rw [show List.replicate (4 : Int).toNat (0 : Int) = [0, 0, 0, 0] from rfl, show wrap64 ((4 : Int) - 1) = 3 from by decide +kernel]
          rw [ref_step _ _ _ _ (by omega) (by omega) (by omega) (by decide) (by omega), show (3 : Int) - 1 = 2 from rfl]
          rw [ref_step _ _ _ _ (by omega) (by omega) (by omega) (by rw [List.length_set]; decide) (by omega), show (2 : Int) - 1 = 1 from rfl]
          rw [ref_step _ _ _ _ (by omega) (by omega) (by omega) (by rw [List.length_set, List.length_set]; decide) (by omega), show (1 : Int) - 1 = 0 from rfl]
          rw [ref_step _ _ _ _ (by omega) (by omega) (by omega) (by rw [List.length_set, List.length_set, List.length_set]; decide) (by omega), show (0 : Int) - 1 = -1 from rfl, ref_end]
          have a1 : n / 256 / 256 % 256 = n / 65536 % 256 := by omega
          have a2 : n / 256 / 256 / 256 % 256 = n / 16777216 % 256 := by omega
          rw [a1, a2]
          rfl
  · rw [if_neg (by rw [decide_eq_true_iff]; exact hw)]
    simp only [wharfref11_Int.j0]
    rw [if_pos trivial, if_neg (fun h => by have := ((fits_iff n w).mp h).2; omega)]
theorem ref_loop (s : ByteArray) : ∀ (d : Nat) (i : Nat) (n : Int) (k : Nat), i + d = s.size → s.size ≤ 4 → 0 ≤ n → n < 256 ^ i → d < k →
    wharfref11_Num.l0 k s n (i : Int) = some (num ((L s).drop i) n, 0) := by
  intro d
  induction d with
  | zero =>
    intro i n k hi hs h0 h1 hk
    obtain ⟨k, rfl⟩ : ∃ m, k = m + 1 := ⟨k - 1, by omega⟩
    simp only [wharfref11_Num.l0]
    rw [if_neg (by omega), List.drop_of_length_le (by rw [← size_L]; omega)]
    rfl
  | succ d ih =>
    intro i n k hi hs h0 h1 hk
    obtain ⟨k, rfl⟩ : ∃ m, k = m + 1 := ⟨k - 1, by omega⟩
    have hb := bt_range s i
    have hpow : (256 : Int) ^ i ≤ 256 ^ 3 := by
      have : i = 0 ∨ i = 1 ∨ i = 2 ∨ i = 3 := by omega
      rcases this with rfl | rfl | rfl | rfl <;> decide
    have hp3 : (256 : Int) ^ 3 = 16777216 := by decide
    rw [hp3] at hpow
    simp only [wharfref11_Num.l0]
    rw [if_pos (by omega), if_pos (by omega), wrap_id (n * 256) (by omega) (by omega), wrap_id (bt s i) (by omega) (by omega), wrap_id ((i : Int) + 1) (by omega) (by omega), wrap_id _ (by omega) (by omega)]
    have e : ((i : Int) + 1) = ((i + 1 : Nat) : Int) := by omega
    rw [e, ih (i + 1) _ k (by omega) hs (by omega) (by rw [Int.pow_succ]; omega) (by omega)]
    have hlt : i < (L s).length := by rw [← size_L]; omega
    rw [List.drop_eq_getElem_cons hlt, num]
    have : bt s (i : Int) = (((L s)[i]).toNat : Int) := by
      rw [bt_L, List.getD_eq_getElem?_getD, Int.toNat_natCast, List.getElem?_eq_getElem hlt]
      rfl
    rw [this]
theorem refNum_eq (s : ByteArray) (k : Nat) (hk : 8 ≤ k) : wharfref11_Num.f k s = some (numAns s) := by
  unfold wharfref11_Num.f numAns
  rw [width_eq, Option.bind_some]
  by_cases hw : s.size = 1 ∨ s.size = 2 ∨ s.size = 4
  · rw [if_pos (by rw [decide_eq_true_iff]; omega), if_pos hw]
    have := ref_loop s s.size 0 0 k (by omega) (by omega) (by omega) (by decide) (by omega)
    simpa using this
  · rw [if_neg (by rw [decide_eq_true_iff]; omega), if_neg hw]
end Go.Proofs.Ythncdeeakhilfaa.Tlv
