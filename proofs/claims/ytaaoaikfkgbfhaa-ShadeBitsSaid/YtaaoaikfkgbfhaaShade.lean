/-
  What the functions of package shade, and of its reference, tell of a status, in plain terms.
-/
import Derived.Test.YtaaoaikfkgbfhaaHx9
import Derived.Test.YtaaoaikfkgbfhaaHx10
import Derived.Test.YtaaoaikfkgbfhaaHx11
import Derived.Test.YtaaoaikfkgbfhaaHx12
import Derived.Test.YtaaoaikfkgbfhaaHx8
import Derived.Laws.Bits128
namespace Go.Proofs.Ytaaoaikfkgbfhaa.Shade
open Go.RowKit Go.Proofs.YtaaoaikfkgbfhaaW.PrintWords Go.Proofs.Ytaaoaikfkgbfhaa.H

theorem live (k : Nat) (hk : 64 ≤ k) : wharflaw16_live.f k = some true :=
  at_rounds (g := fun k => wharflaw16_live.f k) (fun k => wharflaw16_live.mono k) hk (by decide +kernel)
theorem wid (a : Int) (h0 : -9223372036854775808 ≤ a) (h1 : a < 9223372036854775808) : wrap64 a = a := by unfold wrap64; omega
theorem and_nat (x m : Nat) (hx : x < 9223372036854775808) (hm : m < 9223372036854775808) : Go.bits .and .i64 (x : Int) (m : Int) = ((x &&& m : Nat) : Int) := by
  have e : ∀ n : Nat, n < 9223372036854775808 → (BitVec.ofInt 64 (n : Int)).toNat = n := by
    intro n hn
    rw [BitVec.toNat_ofInt]
    omega
  show IntKind.i64.wrap ((BitVec.ofInt 64 (x : Int) &&& BitVec.ofInt 64 (m : Int)).toNat : Nat) = _
  rw [BitVec.toNat_and, e x hx, e m hm, IntKind.wrap_i64]
  have : x &&& m ≤ m := Nat.and_le_right
  omega
theorem and_bit (x i : Nat) : (x &&& 2 ^ i = 0) ↔ x / 2 ^ i % 2 = 0 := by
  have ht : x.testBit i = decide (x / 2 ^ i % 2 = 1) := Nat.testBit_eq_decide_div_mod_eq
  constructor
  · intro h
    have h2 := congrArg (fun y => Nat.testBit y i) h
    simp only [Nat.testBit_and, Nat.testBit_two_pow_self, Bool.and_true, Nat.zero_testBit, ht, decide_eq_false_iff_not] at h2
    omega
  · intro h
    apply Nat.eq_of_testBit_eq
    intro j
    rw [Nat.testBit_and, Nat.zero_testBit, Nat.testBit_two_pow]
    by_cases hj : i = j
    · subst hj
      rw [ht, decide_eq_false (by omega)]
      rfl
    · rw [decide_eq_false hj, Bool.and_false]
theorem bit1 (x : Int) (h0 : 0 ≤ x) (h1 : x < 9223372036854775808) : ((Go.bits .and .i64 x 256 = 0) ↔ x / 256 % 2 = 0) ∧ ((Go.bits .and .i64 x 4 = 0) ↔ x / 4 % 2 = 0) ∧ ((Go.bits .and .i64 x 1 = 0) ↔ x % 2 = 0) ∧ ((Go.bits .and .i64 x 32 = 0) ↔ x / 32 % 2 = 0) ∧ ((Go.bits .and .i64 x 18 = 0) ↔ (x / 2 % 2 = 0 ∧ x / 16 % 2 = 0)) := by
  obtain ⟨n, rfl⟩ : ∃ n : Nat, x = n := ⟨x.toNat, by omega⟩
  have a1 := and_nat n 256 (by omega) (by omega)
  have a2 := and_nat n 4 (by omega) (by omega)
  have a3 := and_nat n 1 (by omega) (by omega)
  have a4 := and_nat n 32 (by omega) (by omega)
  have a5 := and_nat n 18 (by omega) (by omega)
  have b1 := and_bit n 8
  have b2 := and_bit n 2
  have b3 := and_bit n 0
  have b4 := and_bit n 5
  have b5 := and_bit n 1
  have b6 := and_bit n 4
  have e : n &&& 18 = (n &&& 2) ||| (n &&& 16) := by rw [← Nat.and_or_distrib_left]; rfl
  have o : ((n &&& 2) ||| (n &&& 16) = 0) ↔ (n &&& 2 = 0 ∧ n &&& 16 = 0) := Nat.or_eq_zero_iff
  simp only [Nat.reducePow] at b1 b2 b3 b4 b5 b6
  rw [show ((256 : Nat) : Int) = 256 from rfl] at a1
  rw [show ((4 : Nat) : Int) = 4 from rfl] at a2
  rw [show ((1 : Nat) : Int) = 1 from rfl] at a3
  rw [show ((32 : Nat) : Int) = 32 from rfl] at a4
  rw [show ((18 : Nat) : Int) = 18 from rfl, e] at a5
  rw [a1, a2, a3, a4, a5]
  refine ⟨?_, ?_, ?_, ?_, ?_⟩ <;> omega
theorem bit_eq (x m : Int) (h0 : 0 ≤ x) (h1 : x < 9223372036854775808) (hm : 1 ≤ m) : wharfref16_bit.f x m = some (decide (x / m % 2 = 1)) := by
  have hb : 0 ≤ x / m := Int.ediv_nonneg h0 (by omega)
  have hc : x / m ≤ x := Int.ediv_le_self m h0
  unfold wharfref16_bit.f
  rw [if_neg (by omega), Int.tdiv_eq_ediv_of_nonneg h0, wid _ (by omega) (by omega), Int.tmod_eq_emod_of_nonneg hb]
  rfl
/-- what a status shows -/
def shown (x : Int) : ByteArray × Bool :=
  if x < 0 ∨ x / 256 % 2 = 1 then (⟨#[]⟩, false)
  else if x / 2 % 2 = 1 ∨ x / 16 % 2 = 1 then (⟨#[100, 110, 100]⟩, true)
  else if x / 4 % 2 = 1 then (⟨#[120, 97]⟩, true)
  else if x % 2 = 1 then (⟨#[97, 119, 97, 121]⟩, true)
  else if x / 32 % 2 = 1 then (⟨#[99, 104, 97, 116]⟩, true)
  else (⟨#[]⟩, true)
theorem Show_eq (x : Int) (h0 : -9223372036854775808 ≤ x) (h1 : x < 9223372036854775808) (k : Nat) (hk : 1 ≤ k) : shade_Show.f k x = some (shown x) := by
  obtain ⟨k, rfl⟩ : ∃ m, k = m + 1 := ⟨k - 1, by omega⟩
  unfold shade_Show.f shown
  simp only [shade_Show.j0]
  by_cases c : x < 0
  · rw [if_pos c, if_pos (Or.inl c)]; rfl
  · obtain ⟨b1, b2, b3, b4, b5⟩ := bit1 x (by omega) h1
    rw [if_neg c]
    by_cases c1 : x / 256 % 2 = 1
    · rw [if_pos (Or.inr c1), if_pos (bne_iff_ne.mpr (fun h => by have := b1.mp h; omega))]
    · have e1 : (Go.bits .and .i64 x 256 != 0) = false := bne_eq_false_iff_eq.mpr (b1.mpr (by omega))
      rw [e1, if_neg Bool.false_ne_true, if_neg (show ¬ (x < 0 ∨ x / 256 % 2 = 1) by omega)]
      by_cases c2 : x / 2 % 2 = 1 ∨ x / 16 % 2 = 1
      · rw [if_pos c2, if_neg (fun h => by have := b5.mp h; omega)]
      · rw [if_neg c2, if_pos (b5.mpr (by omega))]
        by_cases c3 : x / 4 % 2 = 1
        · rw [if_pos c3, if_neg (fun h => by have := b2.mp h; omega)]
        · rw [if_neg c3, if_pos (b2.mpr (by omega))]
          by_cases c4 : x % 2 = 1
          · rw [if_pos c4, if_neg (fun h => by have := b3.mp h; omega)]
          · rw [if_neg c4, if_pos (b3.mpr (by omega))]
            by_cases c5 : x / 32 % 2 = 1
            · rw [if_pos c5, if_neg (fun h => by have := b4.mp h; omega)]
            · rw [if_neg c5, if_pos (b4.mpr (by omega))]
theorem refShow_eq (x : Int) (h0 : -9223372036854775808 ≤ x) (h1 : x < 9223372036854775808) (k : Nat) (hk : 1 ≤ k) : wharfref16_Show.f k x = some (shown x) := by
  obtain ⟨k, rfl⟩ : ∃ m, k = m + 1 := ⟨k - 1, by omega⟩
  unfold wharfref16_Show.f shown
  simp only [wharfref16_Show.j0]
  by_cases c : x < 0
  · rw [if_pos c, if_pos (Or.inl c)]
  · have be := fun m hm => bit_eq x m (by omega) h1 hm
    rw [if_neg c, be 256 (by omega), Option.bind_some]
    by_cases c1 : x / 256 % 2 = 1
    · rw [if_pos (Or.inr c1), decide_eq_true c1, if_pos rfl]
    · rw [decide_eq_false c1, if_neg Bool.false_ne_true, if_neg (show ¬ (x < 0 ∨ x / 256 % 2 = 1) by omega), be 2 (by omega), Option.bind_some, be 16 (by omega), Option.bind_some, be 4 (by omega), Option.bind_some, be 1 (by omega), Option.bind_some, be 32 (by omega), Option.bind_some, Int.ediv_one]
      by_cases c2 : x / 2 % 2 = 1
      · rw [decide_eq_true c2, if_pos rfl, if_pos trivial, if_pos (Or.inl c2)]
      · rw [decide_eq_false c2, if_neg Bool.false_ne_true]
        by_cases c2' : x / 16 % 2 = 1
        · rw [decide_eq_true c2', if_pos rfl, if_pos (Or.inr c2')]
        · rw [decide_eq_false c2', if_neg Bool.false_ne_true, if_neg (show ¬ (x / 2 % 2 = 1 ∨ x / 16 % 2 = 1) by omega)]
          simp only [decide_eq_true_eq]
          repeat' split
          all_goals rfl
end Go.Proofs.Ytaaoaikfkgbfhaa.Shade
