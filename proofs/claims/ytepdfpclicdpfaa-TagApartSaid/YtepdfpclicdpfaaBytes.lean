/-
  Plain laws about bytes: a string as the list of its bytes; numbers of one, two and four bytes.
-/
import Derived.Test.YtepdfpclicdpfaaWWords
namespace Go.Proofs.Ytepdfpclicdpfaa.Bytes
open Go.RowKit Go.Proofs.YtepdfpclicdpfaaW.PrintWords

/-- a string's bytes -/
abbrev L (s : ByteArray) : List UInt8 := s.data.toList
theorem L_inj {a b : ByteArray} (h : L a = L b) : a = b := ByteArray.ext (Array.toList_inj.mp h)
theorem L_iff {a b : ByteArray} : a = b ↔ L a = L b := ⟨fun h => by rw [h], L_inj⟩
theorem toList_L (s : ByteArray) : s.toList = L s := ByteArray.toList_eq s
theorem toList_inj {a b : ByteArray} : a.toList = b.toList ↔ a = b := by rw [toList_L, toList_L]; exact L_iff.symm
theorem size_L (s : ByteArray) : s.size = (L s).length := rfl
theorem L_append (a b : ByteArray) : L (a ++ b) = L a ++ L b := by simp
theorem L_extract (s : ByteArray) (a b : Nat) : L (s.extract a b) = ((L s).drop a).take (b - a) := by
  simp [L, ByteArray.data_extract]
theorem L_tail (s : ByteArray) (a : Nat) : L (s.extract a s.size) = (L s).drop a := by
  rw [L_extract]
  exact List.take_of_length_le (by rw [List.length_drop]; exact Nat.le_refl _)
theorem L_head (s : ByteArray) (b : Nat) : L (s.extract 0 b) = (L s).take b := by rw [L_extract]; simp
theorem L_mk (l : List UInt8) : L ⟨l.toArray⟩ = l := rfl
theorem L_nums (xs : List Int) : L (strOfNums xs) = xs.map fun n => UInt8.ofNat n.toNat := rfl
theorem bt_L (s : ByteArray) (i : Int) : bt s i = (((L s).getD i.toNat 0).toNat : Int) := by
  unfold bt
  by_cases h : i.toNat < s.size
  · rw [dif_pos h]
    have h' : i.toNat < (L s).length := h
    rw [List.getD_eq_getElem?_getD, List.getElem?_eq_getElem h']
    rfl
  · rw [dif_neg h]
    have h' : (L s).length ≤ i.toNat := Nat.le_of_not_lt h
    rw [List.getD_eq_getElem?_getD, List.getElem?_eq_none h']
    rfl
theorem or_join (a b : Int) (h0 : 0 ≤ a) (h1 : a < 9223372036854775808) (hm : a % 256 = 0) (b0 : 0 ≤ b) (b1 : b < 256) : Go.bits .or .i64 a b = a + b :=
  bits_join .i64 63 (by decide) (fun n h0 h1 => by rw [IntKind.wrap_i64]; omega) 8 a b h0 (by simpa using hm) (by simpa using h1) b0 (by simpa using b1) (by simp; omega)
theorem wrap_id (a : Int) (h0 : -9223372036854775808 ≤ a) (h1 : a < 9223372036854775808) : wrap64 a = a := by unfold wrap64; omega
theorem of_toNat (u : UInt8) : UInt8.ofNat (u.toNat : Int).toNat = u := by simp
theorem toNat_ofNat (n : Int) (h0 : 0 ≤ n) (h1 : n < 256) : ((UInt8.ofNat n.toNat).toNat : Int) = n := by
  rw [UInt8.toNat_ofNat']
  omega
end Go.Proofs.Ytepdfpclicdpfaa.Bytes
