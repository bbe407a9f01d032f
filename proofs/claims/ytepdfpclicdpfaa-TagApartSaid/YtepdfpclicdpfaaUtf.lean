/-
  Signs and their bytes, in plain terms: the encoding of a sign, the sign at the front of bytes, and that each tells the other.
-/
import Derived.Test.YtepdfpclicdpfaaBytes
import Derived.Lib.TrimUEq
namespace Go.Proofs.Ytepdfpclicdpfaa.Utf
open Go.RowKit Go.Proofs.YtepdfpclicdpfaaW.PrintWords Go.Proofs.Ytepdfpclicdpfaa.Bytes Go.Lib

/-- is a number a sign? -/
def Sign (c : Nat) : Prop := c < 55296 ∨ (57344 ≤ c ∧ c ≤ 1114111)
instance (c : Nat) : Decidable (Sign c) := inferInstanceAs (Decidable (_ ∨ _))
/-- a sign's bytes -/
def enc (c : Nat) : List UInt8 :=
  if c < 128 then [UInt8.ofNat c]
  else if c < 2048 then [UInt8.ofNat (192 + c / 64), UInt8.ofNat (128 + c % 64)]
  else if c < 65536 then [UInt8.ofNat (224 + c / 4096), UInt8.ofNat (128 + c / 64 % 64), UInt8.ofNat (128 + c % 64)]
  else [UInt8.ofNat (240 + c / 262144), UInt8.ofNat (128 + c / 4096 % 64), UInt8.ofNat (128 + c / 64 % 64), UInt8.ofNat (128 + c % 64)]
def width (c : Nat) : Nat := if c < 128 then 1 else if c < 2048 then 2 else if c < 65536 then 3 else 4
theorem enc_length (c : Nat) : (enc c).length = width c := by
  unfold enc width
  repeat' split
  all_goals rfl
theorem width_pos (c : Nat) : 1 ≤ width c ∧ width c ≤ 4 := by
  unfold width
  repeat' split
  all_goals omega
theorem enc_encode (c : Nat) (h : Sign c) : L (Utf8.encode (c : Int)) = enc c := by
  have hv : Utf8.valid (c : Int) = true := by
    unfold Utf8.valid
    unfold Sign at h
    simp
    omega
  unfold Utf8.encode enc
  simp only [hv, if_true, Int.toNat_natCast]
  repeat' split
  all_goals rfl
/-- the sign at the front of bytes, and how many bytes it has -/
def sgn (l : List UInt8) : Option (Nat × Nat) := if l = [] then none else if (decodeL l).1 = 65533 ∧ (decodeL l).2 = 1 then none else some (decodeL l)
theorem u8_of (u : UInt8) (n : Nat) (h : n = u.toNat) : UInt8.ofNat n = u := by rw [h]; simp
theorem toNat_of (n : Nat) (h : n < 256) : (UInt8.ofNat n).toNat = n := by rw [UInt8.toNat_ofNat']; omega
theorem getD0 (a : UInt8) (l : List UInt8) : (a :: l).getD 0 0 = a := rfl
/-- a sign's bytes, whatever is behind them, have that sign at their front. -/
theorem sgn_enc (c : Nat) (h : Sign c) (t : List UInt8) : sgn (enc c ++ t) = some (c, width c) := by
  have hd : decodeL (enc c ++ t) = (c, width c) := by
    rw [decodeL_N]
    unfold Sign at h
    unfold enc width
    by_cases h1 : c < 128
    · simp only [h1, if_true, List.cons_append, List.nil_append, List.getD_cons_zero]
      rw [toNat_of c (by omega)]
      simp [decodeN, h1]
    · by_cases h2 : c < 2048
      · simp only [h1, h2, if_true, if_false, List.cons_append, List.nil_append, List.getD_cons_zero, List.getD_cons_succ, List.length_cons]
        rw [toNat_of (192 + c / 64) (by omega), toNat_of (128 + c % 64) (by omega)]
        unfold decodeN
        rw [if_neg (by omega), if_pos (by omega), if_pos (by omega)]
        congr 1
        omega
      · by_cases h3 : c < 65536
        · simp only [h1, h2, h3, if_true, if_false, List.cons_append, List.nil_append, List.getD_cons_zero, List.getD_cons_succ, List.length_cons]
          rw [toNat_of (224 + c / 4096) (by omega), toNat_of (128 + c / 64 % 64) (by omega), toNat_of (128 + c % 64) (by omega)]
          unfold decodeN
          rw [if_neg (by omega), if_neg (by omega), if_pos (by omega), if_pos (by omega)]
          congr 1
          omega
        · simp only [h1, h2, h3, if_false, List.cons_append, List.nil_append, List.getD_cons_zero, List.getD_cons_succ, List.length_cons]
          rw [toNat_of (240 + c / 262144) (by omega), toNat_of (128 + c / 4096 % 64) (by omega), toNat_of (128 + c / 64 % 64) (by omega), toNat_of (128 + c % 64) (by omega)]
          unfold decodeN
          rw [if_neg (by omega), if_neg (by omega), if_neg (by omega), if_pos (by omega), if_pos (by omega)]
          congr 1
          omega
  have hne : enc c ++ t ≠ [] := by
    intro he
    have := congrArg List.length he
    rw [List.length_append, enc_length] at this
    have := width_pos c
    simp at *
    omega
  unfold sgn
  rw [if_neg hne, hd, if_neg]
  intro hh
  have h1 : c = 65533 := hh.1
  have h2 : width c = 1 := hh.2
  rw [h1] at h2
  exact absurd h2 (by decide)
/-- the sign at the front of bytes is one, and its bytes are these. -/
theorem enc_sgn {l : List UInt8} {c n : Nat} (h : sgn l = some (c, n)) : Sign c ∧ n = width c ∧ ∃ t, l = enc c ++ t := by
  unfold sgn at h
  by_cases h0 : l = []
  · rw [if_pos h0] at h; cases h
  rw [if_neg h0] at h
  by_cases hb : (decodeL l).1 = 65533 ∧ (decodeL l).2 = 1
  · rw [if_pos hb] at h; cases h
  rw [if_neg hb] at h
  have hd : decodeL l = (c, n) := Option.some.inj h
  rw [hd] at hb
  rw [decodeL_N] at hd
  match l, h0 with
  | a :: l, _ =>
    have ha := a.toNat_lt
    simp only [List.getD_cons_zero, List.getD_cons_succ, List.length_cons] at hd
    unfold decodeN at hd
    unfold Sign
    by_cases h1 : a.toNat < 128
    · rw [if_pos h1] at hd
      obtain ⟨rfl, rfl⟩ := Prod.mk.inj hd
      refine ⟨by omega, by simp [width, h1], l, ?_⟩
      simp only [enc, h1, if_true]
      rw [u8_of a _ rfl]
      rfl
    · rw [if_neg h1] at hd
      match l with
      | [] => 
        rw [if_neg (by simp), if_neg (by simp), if_neg (by simp)] at hd
        obtain ⟨rfl, rfl⟩ := Prod.mk.inj hd
        exact absurd ⟨rfl, rfl⟩ hb
      | b :: l =>
        have hb2 := b.toNat_lt
        simp only [List.getD_cons_zero, List.getD_cons_succ, List.length_cons] at hd
        by_cases h2 : a.toNat / 32 = 6 ∧ (1 < l.length + 1 + 1 ∧ b.toNat / 64 = 2)
        · rw [if_pos h2] at hd
          split at hd
          · obtain ⟨rfl, rfl⟩ := Prod.mk.inj hd
            refine ⟨by omega, ?_, l, ?_⟩
            · unfold width
              rw [if_neg (by omega), if_pos (by omega)]
            · unfold enc
              rw [if_neg (by omega), if_pos (by omega), u8_of a _ (by omega), u8_of b _ (by omega)]
              rfl
          · obtain ⟨rfl, rfl⟩ := Prod.mk.inj hd
            exact absurd ⟨rfl, rfl⟩ hb
        · rw [if_neg h2] at hd
          match l with
          | [] =>
            rw [if_neg (by simp), if_neg (by simp)] at hd
            obtain ⟨rfl, rfl⟩ := Prod.mk.inj hd
            exact absurd ⟨rfl, rfl⟩ hb
          | d :: l =>
            have hd2 := d.toNat_lt
            simp only [List.getD_cons_zero, List.getD_cons_succ, List.length_cons] at hd
            by_cases h3 : a.toNat / 16 = 14 ∧ (1 < l.length + 1 + 1 + 1 ∧ b.toNat / 64 = 2) ∧ (2 < l.length + 1 + 1 + 1 ∧ d.toNat / 64 = 2)
            · rw [if_pos h3] at hd
              split at hd
              · obtain ⟨rfl, rfl⟩ := Prod.mk.inj hd
                refine ⟨by omega, ?_, l, ?_⟩
                · unfold width
                  rw [if_neg (by omega), if_neg (by omega), if_pos (by omega)]
                · unfold enc
                  rw [if_neg (by omega), if_neg (by omega), if_pos (by omega), u8_of a _ (by omega), u8_of b _ (by omega), u8_of d _ (by omega)]
                  rfl
              · obtain ⟨rfl, rfl⟩ := Prod.mk.inj hd
                exact absurd ⟨rfl, rfl⟩ hb
            · rw [if_neg h3] at hd
              match l with
              | [] =>
                rw [if_neg (by simp)] at hd
                obtain ⟨rfl, rfl⟩ := Prod.mk.inj hd
                exact absurd ⟨rfl, rfl⟩ hb
              | e :: l =>
                have he2 := e.toNat_lt
                simp only [List.getD_cons_zero, List.length_cons] at hd
                split at hd
                · split at hd
                  · obtain ⟨rfl, rfl⟩ := Prod.mk.inj hd
                    refine ⟨by omega, ?_, l, ?_⟩
                    · unfold width
                      rw [if_neg (by omega), if_neg (by omega), if_neg (by omega)]
                    · unfold enc
                      rw [if_neg (by omega), if_neg (by omega), if_neg (by omega), u8_of a _ (by omega), u8_of b _ (by omega), u8_of d _ (by omega), u8_of e _ (by omega)]
                      rfl
                  · obtain ⟨rfl, rfl⟩ := Prod.mk.inj hd
                    exact absurd ⟨rfl, rfl⟩ hb
                · obtain ⟨rfl, rfl⟩ := Prod.mk.inj hd
                  exact absurd ⟨rfl, rfl⟩ hb
end Go.Proofs.Ytepdfpclicdpfaa.Utf
