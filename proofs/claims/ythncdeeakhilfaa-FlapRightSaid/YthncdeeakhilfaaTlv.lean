/-
  What tlv.Num and tlv.Int compute, in plain terms.
-/
import Derived.Test.YthncdeeakhilfaaHx28
import Derived.Test.YthncdeeakhilfaaHx24
import Derived.Test.YthncdeeakhilfaaBytes
namespace Go.Proofs.Ythncdeeakhilfaa.Tlv
open Go.RowKit Go.Proofs.YthncdeeakhilfaaW.PrintWords Go.Proofs.Ythncdeeakhilfaa.H Go.Proofs.Ythncdeeakhilfaa.Bytes

/-- the number of bytes, the first one the greatest -/
def num : List UInt8 → Int → Int
  | [], n => n
  | u :: l, n => num l (n * 256 + (u.toNat : Int))
theorem num_lo : ∀ (l : List UInt8) (n : Int), 0 ≤ n → 0 ≤ num l n
  | [], n, h => h
  | u :: l, n, h => num_lo l _ (by omega)
theorem num_loop (s : ByteArray) : ∀ (d : Nat) (i : Nat) (n : Int) (k : Nat), i + d = s.size → s.size ≤ 4 → 0 ≤ n → n < 256 ^ i → d < k →
    tlv_Num.l0 k s n (s.size : Int) (i : Int) = some (num ((L s).drop i) n, 0) := by
  intro d
  induction d with
  | zero =>
    intro i n k hi hs h0 h1 hk
    obtain ⟨k, rfl⟩ : ∃ m, k = m + 1 := ⟨k - 1, by omega⟩
    simp only [tlv_Num.l0]
    rw [if_neg (by omega), List.drop_of_length_le (by rw [← size_L]; omega)]
    rfl
  | succ d ih =>
    intro i n k hi hs h0 h1 hk
    obtain ⟨k, rfl⟩ : ∃ m, k = m + 1 := ⟨k - 1, by omega⟩
    have hb := bt_range s i
    have hpow : (256 : Int) ^ i ≤ 256 ^ 3 := by
      have : i = 0 ∨ i = 1 ∨ i = 2 ∨ i = 3 := by omega
      rcases this with rfl | rfl | rfl | rfl <;> decide
    have hp3 : (256 : Int) ^ 3 = 16777216 := by decide
    rw [hp3] at hpow
    simp only [tlv_Num.l0]
    rw [if_pos (by omega), if_pos (by omega), if_pos (by omega), wrap_id (n * 256) (by omega) (by omega), wrap_id (bt s i) (by omega) (by omega), wrap_id ((i : Int) + 1) (by omega) (by omega)]
    rw [or_join _ _ (by omega) (by omega) (by omega) (by omega) (by omega)]
    have e : ((i : Int) + 1) = ((i + 1 : Nat) : Int) := by omega
    rw [e, ih (i + 1) _ k (by omega) hs (by omega) (by rw [Int.pow_succ]; omega) (by omega)]
    have hlt : i < (L s).length := by rw [← size_L]; omega
    rw [List.drop_eq_getElem_cons hlt, num]
    have : bt s (i : Int) = (((L s)[i]).toNat : Int) := by
      rw [bt_L, List.getD_eq_getElem?_getD, Int.toNat_natCast, List.getElem?_eq_getElem hlt]
      rfl
    rw [this]
/-- what tlv.Num answers -/
def numAns (s : ByteArray) : Int × Int := if s.size = 1 ∨ s.size = 2 ∨ s.size = 4 then (num (L s) 0, 0) else (0, 110)
theorem Num_eq (s : ByteArray) (k : Nat) (hk : 8 ≤ k) : tlv_Num.f k s = some (numAns s) := by
  have go : s.size ≤ 4 → tlv_Num.j0 k s 0 = some (num (L s) 0, 0) := by
    intro hs
    obtain ⟨k, rfl⟩ : ∃ m, k = m + 1 := ⟨k - 1, by omega⟩
    simp only [tlv_Num.j0]
    have := num_loop s s.size 0 0 k (by omega) hs (by omega) (by decide) (by omega)
    simpa using this
  unfold tlv_Num.f numAns
  by_cases h1 : s.size = 1
  · rw [if_pos (by omega), go (by omega), if_pos (Or.inl h1)]
  · rw [if_neg (by omega)]
    by_cases h2 : s.size = 2
    · rw [if_pos (by omega), go (by omega), if_pos (Or.inr (Or.inl h2))]
    · rw [if_neg (by omega)]
      by_cases h4 : s.size = 4
      · rw [if_pos (by omega), go (by omega), if_pos (Or.inr (Or.inr h4))]
      · rw [if_neg (by omega), if_neg (by omega)]
/-- the bytes of a number -/
def nbytes (n : Int) (w : Int) : ByteArray := strOfNums (tlvBytes n w)
theorem bytes_size (n w : Int) (h : w = 1 ∨ w = 2 ∨ w = 4) : ((nbytes n w).size : Int) = w := by
  rcases h with rfl | rfl | rfl <;> simp [nbytes, strOfNums_size, tlvBytes]
theorem fits_w {n w : Int} (h : tlvFits n w = true) : w = 1 ∨ w = 2 ∨ w = 4 := by
  simp [tlvFits] at h
  omega
theorem fits_iff (n w : Int) : tlvFits n w = true ↔ 0 ≤ n ∧ ((w = 1 ∧ n < 256) ∨ (w = 2 ∧ n < 65536) ∨ (w = 4 ∧ n < 4294967296)) := by
  simp [tlvFits]
  omega
theorem num_bytes (n w : Int) (h : tlvFits n w = true) : num (L (nbytes n w)) 0 = n := by
  obtain ⟨h0, h⟩ := (fits_iff n w).mp h
  rcases h with ⟨rfl, h⟩ | ⟨rfl, h⟩ | ⟨rfl, h⟩ <;> simp only [nbytes, L_nums, tlvBytes] <;> simp [num] <;> omega
theorem num_fits (s : ByteArray) (h : s.size = 1 ∨ s.size = 2 ∨ s.size = 4) : tlvFits (num (L s) 0) s.size = true := by
  rw [fits_iff]
  rw [size_L] at h ⊢
  generalize L s = l at h ⊢
  rcases h with h | h | h
  · obtain ⟨a, rfl⟩ := List.length_eq_one_iff.mp h
    have := a.toNat_lt
    simp [num]; omega
  · match l, h with
    | [a, b], _ =>
      have := a.toNat_lt
      have := b.toNat_lt
      simp [num]; omega
  · match l, h with
    | [a, b, c, d], _ =>
      have := a.toNat_lt
      have := b.toNat_lt
      have := c.toNat_lt
      have := d.toNat_lt
      simp [num]; omega
theorem u8_eq (u : UInt8) (n : Int) (h : n = (u.toNat : Int)) : UInt8.ofNat n.toNat = u := by rw [h]; simp
theorem bytes_num (s : ByteArray) (h : s.size = 1 ∨ s.size = 2 ∨ s.size = 4) : nbytes (num (L s) 0) s.size = s := by
  apply L_inj
  rw [size_L] at h ⊢
  unfold nbytes
  rw [L_nums]
  generalize L s = l at h ⊢
  rcases h with h | h | h
  · obtain ⟨a, rfl⟩ := List.length_eq_one_iff.mp h
    have := a.toNat_lt
    simp only [tlvBytes, num, List.length_cons, List.length_nil]
    simp only [show ((4 : Int) - ((0 + 1 : Nat) : Int)).toNat = 3 from rfl, List.drop_succ_cons, List.drop_zero, List.map_cons, List.map_nil]
    rw [u8_eq a _ (by omega)]
  · match l, h with
    | [a, b], _ =>
      have := a.toNat_lt
      have := b.toNat_lt
      simp only [tlvBytes, num, List.length_cons, List.length_nil]
      simp only [show ((4 : Int) - ((0 + 1 + 1 : Nat) : Int)).toNat = 2 from rfl, List.drop_succ_cons, List.drop_zero, List.map_cons, List.map_nil]
      rw [u8_eq a _ (by omega), u8_eq b _ (by omega)]
  · match l, h with
    | [a, b, c, d], _ =>
      have := a.toNat_lt
      have := b.toNat_lt
      have := c.toNat_lt
      have := d.toNat_lt
      simp only [tlvBytes, num, List.length_cons, List.length_nil]
      simp only [show ((4 : Int) - ((0 + 1 + 1 + 1 + 1 : Nat) : Int)).toNat = 0 from rfl, List.drop_zero, List.map_cons, List.map_nil]
      rw [u8_eq a _ (by omega), u8_eq b _ (by omega), u8_eq c _ (by omega), u8_eq d _ (by omega)]
theorem Int_eq (n w : Int) : tlv_Int.f n w = some (if tlvFits n w = true then (nbytes n w, 0) else (⟨#[]⟩, 2)) := by
  unfold tlv_Int.f nbytes
  split <;> rfl
end Go.Proofs.Ythncdeeakhilfaa.Tlv
