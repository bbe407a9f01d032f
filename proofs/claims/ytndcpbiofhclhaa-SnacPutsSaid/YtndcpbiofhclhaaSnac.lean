/-
  What snac.Check, snac.Put and snac.Parse compute, in plain terms; there and back.
-/
import Derived.Test.YtndcpbiofhclhaaHx12
import Derived.Test.YtndcpbiofhclhaaHx17
import Derived.Test.YtndcpbiofhclhaaHx13
import Derived.Test.YtndcpbiofhclhaaHx15
import Derived.Test.YtndcpbiofhclhaaTlv
namespace Go.Proofs.Ytndcpbiofhclhaa.Snac
open Go.RowKit Go.Proofs.YtndcpbiofhclhaaW.PrintWords Go.Proofs.Ytndcpbiofhclhaa.H Go.Proofs.Ytndcpbiofhclhaa.Bytes Go.Proofs.Ytndcpbiofhclhaa.Tlv

theorem live (k : Nat) (hk : 20 ≤ k) : wharflaw13_live.f k = some true :=
  at_rounds (g := fun k => wharflaw13_live.f k) (fun k => wharflaw13_live.mono k) hk (by decide +kernel)

def put (a b c d : Int) (s : ByteArray) : ByteArray × Int :=
  if snacFits a b c d = true then (if (s.size : Int) > 8182 then (⟨#[]⟩, 1) else (snacHead a b c d ++ s, 0)) else (⟨#[]⟩, 2)
theorem Put_eq (a b c d : Int) (s : ByteArray) : snac_Put.f a b c d s = some (put a b c d s) := by
  unfold snac_Put.f put
  split
  · split <;> rfl
  · rfl
def check (a b c d : Int) (s : ByteArray) : Int := if snacFits a b c d = true then (if (s.size : Int) > 8182 then 1 else 0) else 2
theorem Check_eq (a b c d : Int) (s : ByteArray) : snac_Check.f a b c d s = some (check a b c d s) := by
  unfold snac_Check.f check
  split
  · split <;> rfl
  · rfl
def parse (b : ByteArray) : Int × Int × Int × Int × ByteArray × Int :=
  if (b.size : Int) < 10 ∨ (b.size : Int) > 8192 then (0, 0, 0, 0, ⟨#[]⟩, 130) else (num (L (b.extract 0 2)) 0, num (L (b.extract 2 4)) 0, num (L (b.extract 4 6)) 0, num (L (b.extract 6 10)) 0, b.extract 10 b.size, 0)
theorem Parse_eq (b : ByteArray) (k : Nat) (hk : 8 ≤ k) : snac_Parse.f k b = some (parse b) := by
  unfold snac_Parse.f parse
  by_cases h0 : (b.size : Int) < 10
  · rw [if_pos h0, if_pos (Or.inl h0)]
  · rw [if_neg h0]
    by_cases h1 : (b.size : Int) > 8192
    · rw [if_pos h1, if_pos (Or.inr h1)]
    · rw [if_neg h1, if_neg (by omega)]
      have e2 : ∀ i j, i + 2 = j → j ≤ 10 → numAns (b.extract i j) = (num (L (b.extract i j)) 0, 0) := fun i j h h' => by
        unfold numAns
        rw [if_pos (Or.inr (Or.inl (by rw [ByteArray.size_extract]; omega)))]
      have e4 : numAns (b.extract 6 10) = (num (L (b.extract 6 10)) 0, 0) := by
        unfold numAns
        rw [if_pos (Or.inr (Or.inr (by rw [ByteArray.size_extract]; omega)))]
      rw [Num_eq _ k hk, Num_eq _ k hk, Num_eq _ k hk, Num_eq _ k hk]
      simp only [Option.bind_some]
      rw [e2 0 2 rfl (by omega), e2 2 4 rfl (by omega), e2 4 6 rfl (by omega), e4]
theorem fits_all {a b c d : Int} (h : snacFits a b c d = true) : tlvFits a 2 = true ∧ tlvFits b 2 = true ∧ tlvFits c 2 = true ∧ tlvFits d 4 = true := by
  simpa [snacFits, Bool.and_eq_true] using h
theorem len2 (a : Int) : (L (nbytes a 2)).length = 2 := by have := bytes_size a 2 (by omega); rw [size_L] at this; omega
theorem len4 (a : Int) : (L (nbytes a 4)).length = 4 := by have := bytes_size a 4 (by omega); rw [size_L] at this; omega
theorem L_head4 (a b c d : Int) : L (snacHead a b c d) = L (nbytes a 2) ++ (L (nbytes b 2) ++ (L (nbytes c 2) ++ L (nbytes d 4))) := by
  unfold snacHead
  rw [L_append, L_append, L_append, List.append_assoc, List.append_assoc]
  rfl
theorem head_len (a b c d : Int) : (snacHead a b c d).size = 10 := by
  rw [size_L, L_head4, List.length_append, List.length_append, List.length_append, len2, len2, len2, len4]
/-- what was put is read as it was. -/
theorem parse_put {a b c d : Int} (s : ByteArray) (h : snacFits a b c d = true) (hs : (s.size : Int) ≤ 8182) : parse (snacHead a b c d ++ s) = (a, b, c, d, s, 0) := by
  obtain ⟨ha, hb, hc, hd⟩ := fits_all h
  have hl : (snacHead a b c d ++ s).size = 10 + s.size := by rw [ByteArray.size_append, head_len]
  have l2 := len2 a
  have m2 := len2 b
  have n2 := len2 c
  have o4 := len4 d
  unfold parse
  rw [if_neg (by omega)]
  have x : L (snacHead a b c d ++ s) = L (nbytes a 2) ++ (L (nbytes b 2) ++ (L (nbytes c 2) ++ (L (nbytes d 4) ++ L s))) := by
    rw [L_append, L_head4]
    simp only [List.append_assoc]
  have p0 : L ((snacHead a b c d ++ s).extract 0 2) = L (nbytes a 2) := by
    rw [L_extract, x, List.drop_zero, List.take_append_of_le_length (by omega), List.take_of_length_le (by omega)]
  have p1 : L ((snacHead a b c d ++ s).extract 2 4) = L (nbytes b 2) := by
    rw [L_extract, x, List.drop_append_of_le_length (by omega), List.drop_of_length_le (by omega), List.nil_append, List.take_append_of_le_length (by omega), List.take_of_length_le (by omega)]
  have p2 : L ((snacHead a b c d ++ s).extract 4 6) = L (nbytes c 2) := by
    rw [L_extract, x, ← List.append_assoc, List.drop_append_of_le_length (by rw [List.length_append]; omega), List.drop_of_length_le (by rw [List.length_append]; omega), List.nil_append, List.take_append_of_le_length (by omega), List.take_of_length_le (by omega)]
  have p3 : L ((snacHead a b c d ++ s).extract 6 10) = L (nbytes d 4) := by
    rw [L_extract, x, ← List.append_assoc, ← List.append_assoc, List.drop_append_of_le_length (by simp only [List.length_append]; omega), List.drop_of_length_le (by simp only [List.length_append]; omega), List.nil_append, List.take_append_of_le_length (by omega), List.take_of_length_le (by omega)]
  have p4 : (snacHead a b c d ++ s).extract 10 (snacHead a b c d ++ s).size = s := by
    apply L_inj
    rw [L_tail, x, ← List.append_assoc, ← List.append_assoc, ← List.append_assoc, List.drop_append_of_le_length (by simp only [List.length_append]; omega), List.drop_of_length_le (by simp only [List.length_append]; omega), List.nil_append]
  rw [p0, p1, p2, p3, p4, num_bytes a 2 ha, num_bytes b 2 hb, num_bytes c 2 hc, num_bytes d 4 hd]
/-- bytes that are one: they are that one's. -/
theorem put_parse (b : ByteArray) (h0 : 10 ≤ b.size) (h1 : b.size ≤ 8192) :
    snacFits (num (L (b.extract 0 2)) 0) (num (L (b.extract 2 4)) 0) (num (L (b.extract 4 6)) 0) (num (L (b.extract 6 10)) 0) = true ∧
      snacHead (num (L (b.extract 0 2)) 0) (num (L (b.extract 2 4)) 0) (num (L (b.extract 4 6)) 0) (num (L (b.extract 6 10)) 0) ++ b.extract 10 b.size = b := by
  have z : ∀ i j, j ≤ 10 → i ≤ j → (b.extract i j).size = j - i := fun i j h h' => by rw [ByteArray.size_extract]; omega
  have f : ∀ i, i + 2 ≤ 10 → tlvFits (num (L (b.extract i (i + 2))) 0) 2 = true := fun i h => by
    have e := z i (i + 2) h (by omega)
    have := num_fits (b.extract i (i + 2)) (by omega)
    rwa [show ((b.extract i (i + 2)).size : Int) = 2 by omega] at this
  have g : ∀ i, i + 2 ≤ 10 → nbytes (num (L (b.extract i (i + 2))) 0) 2 = b.extract i (i + 2) := fun i h => by
    have e := z i (i + 2) h (by omega)
    have := bytes_num (b.extract i (i + 2)) (by omega)
    rwa [show ((b.extract i (i + 2)).size : Int) = 2 by omega] at this
  have e4 := z 6 10 (by omega) (by omega)
  have f4 := num_fits (b.extract 6 10) (by omega)
  rw [show ((b.extract 6 10).size : Int) = 4 by omega] at f4
  have g4 := bytes_num (b.extract 6 10) (by omega)
  rw [show ((b.extract 6 10).size : Int) = 4 by omega] at g4
  refine ⟨by simp only [snacFits, f 0 (by omega), f 2 (by omega), f 4 (by omega), f4, Bool.and_true], ?_⟩
  apply L_inj
  rw [L_append, L_head4, g 0 (by omega), g 2 (by omega), g 4 (by omega), g4, L_tail, L_extract, L_extract, L_extract, L_extract]
  generalize L b = l
  simp only [Nat.zero_add, Nat.sub_zero, List.drop_zero, Nat.reduceAdd, Nat.reduceSub]
  have s1 : ∀ i j (l : List UInt8), List.take i (List.drop j l) ++ List.drop (j + i) l = List.drop j l := fun i j l => by
    rw [← List.drop_drop, List.take_append_drop]
  rw [List.append_assoc, List.append_assoc, List.append_assoc, s1 4 6, s1 2 4, s1 2 2]
  exact List.take_append_drop 2 l
end Go.Proofs.Ytndcpbiofhclhaa.Snac
