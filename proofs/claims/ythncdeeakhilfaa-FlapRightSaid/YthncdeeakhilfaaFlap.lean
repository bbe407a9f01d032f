/-
  What package flap, and its reference, compute of bytes, in plain terms.
-/
import Derived.Test.YthncdeeakhilfaaTlv
import Derived.Test.YthncdeeakhilfaaTlvRef
import Derived.Test.YthncdeeakhilfaaHx18
import Derived.Test.YthncdeeakhilfaaHx19
import Derived.Test.YthncdeeakhilfaaHx21
import Derived.Test.YthncdeeakhilfaaHx20001
namespace Go.Proofs.Ythncdeeakhilfaa.Flap
open Go.RowKit Go.Proofs.Ythncdeeakhilfaa.H Go.Proofs.YthncdeeakhilfaaW.PrintWords Go.Proofs.Ythncdeeakhilfaa.Tlv Go.Proofs.Ythncdeeakhilfaa.Bytes
abbrev Fr := S37

def txt (s : ByteArray) (w : Int) : ByteArray × Int := if tlvFits s.size w = true then (nbytes s.size w ++ s, 0) else (⟨#[]⟩, 2)
theorem Text_eq (s : ByteArray) (w : Int) (hs : s.size ≤ 140737488351232) : tlv_Text.f s w = some (txt s w) := by
  unfold tlv_Text.f txt
  rw [Int_eq, Option.bind_some]
  by_cases h : tlvFits s.size w = true
  · rw [if_pos h, if_pos h]
    have hw := fits_w h
    have hz := bytes_size s.size w hw
    dsimp only
    rw [if_pos rfl, if_pos (by omega)]
  · rw [if_neg h, if_neg h]
    rfl
theorem refText_eq (s : ByteArray) (w : Int) (hs : s.size ≤ 140737488351232) (k : Nat) (hk : 8 ≤ k) : wharfref11_Text.f k s w = some (txt s w) := by
  unfold wharfref11_Text.f txt
  rw [refInt_eq _ _ k hk, Option.bind_some]
  by_cases h : tlvFits s.size w = true
  · rw [if_pos h, if_pos h]
    have hw := fits_w h
    have hz := bytes_size s.size w hw
    dsimp only
    rw [if_pos rfl, if_pos (by omega)]
  · rw [if_neg h, if_neg h]
    rfl
/-- a frame's bytes -/
def frameB (ch seq : Int) (data : ByteArray) : ByteArray := strOfNums [42, ch] ++ nbytes seq 2 ++ (nbytes data.size 2 ++ data)
def Fok (ch seq : Int) : Prop := 1 ≤ ch ∧ ch ≤ 5 ∧ 0 ≤ seq ∧ seq ≤ 65535
instance (ch seq : Int) : Decidable (Fok ch seq) := inferInstanceAs (Decidable (_ ∧ _))
def putAns (ch seq : Int) (data : ByteArray) : ByteArray × Int :=
  if Fok ch seq then (if (data.size : Int) > 8192 then (⟨#[]⟩, 1) else (frameB ch seq data, 0)) else (⟨#[]⟩, 2)
theorem strSize (a b : Int) : (strOfNums [a, b]).size = 2 := by rw [strOfNums_size]; rfl
theorem put_in (k : Nat) (ch seq : Int) (data : ByteArray) (h : Fok ch seq) : flap_Put.j0 (k + 1) false ch seq data = some (putAns ch seq data) := by
  unfold putAns
  rw [if_pos h]
  obtain ⟨h1, h2, h3, h4⟩ := h
  simp only [flap_Put.j0]
  rw [if_neg Bool.false_ne_true]
  by_cases c : (data.size : Int) > 8192
  · rw [if_pos c, if_pos c]
  · have f1 : tlvFits seq 2 = true := (fits_iff _ _).mpr ⟨h3, Or.inr (Or.inl ⟨rfl, by omega⟩)⟩
    have f2 : tlvFits data.size 2 = true := (fits_iff _ _).mpr ⟨by omega, Or.inr (Or.inl ⟨rfl, by omega⟩)⟩
    have z1 := bytes_size seq 2 (Or.inr (Or.inl rfl))
    have z2 := bytes_size data.size 2 (Or.inr (Or.inl rfl))
    have z3 := strSize 42 (ch % 256)
    rw [if_neg c, if_neg c, Int_eq, if_pos f1, Text_eq _ _ (by omega)]
    unfold txt
    rw [if_pos f2]
    simp only [Option.bind_some]
    rw [if_pos (by omega), if_pos (by simp only [ByteArray.size_append]; omega), show ch % 256 = ch by omega]
    rfl
theorem Put_eq (ch seq : Int) (data : ByteArray) (k : Nat) (hk : 1 ≤ k) : flap_Put.f k ch seq data = some (putAns ch seq data) := by
  obtain ⟨k, rfl⟩ : ∃ m, k = m + 1 := ⟨k - 1, by omega⟩
  have no : ¬ Fok ch seq → flap_Put.j0 (k + 1) true ch seq data = some (putAns ch seq data) := by
    intro h
    unfold putAns
    simp only [flap_Put.j0]
    rw [if_pos trivial, if_neg h]
  unfold flap_Put.f
  by_cases c1 : ch < 1
  · rw [if_pos c1]; exact no (fun h => by have := h.1; omega)
  rw [if_neg c1]
  by_cases c2 : ch > 5
  · rw [if_pos c2]; exact no (fun h => by have := h.2.1; omega)
  rw [if_neg c2]
  by_cases c3 : seq < 0
  · rw [if_pos c3]; exact no (fun h => by have := h.2.2.1; omega)
  rw [if_neg c3]
  by_cases c4 : seq > 65535
  · rw [decide_eq_true c4]; exact no (fun h => by have := h.2.2.2; omega)
  rw [decide_eq_false c4]
  exact put_in k ch seq data ⟨by omega, by omega, by omega, by omega⟩
theorem head_eq (ch : Int) (h1 : 1 ≤ ch) (h2 : ch ≤ 5) : (⟨#[42]⟩ : ByteArray) ++ nbytes ch 1 = strOfNums [42, ch] := by
  apply L_inj
  rw [L_append, L_nums]
  unfold nbytes
  rw [L_nums]
  have e : ch % 256 = ch := by omega
  simp [tlvBytes, e]
  rfl
theorem refPut_eq (ch seq : Int) (data : ByteArray) (k : Nat) (hk : 9 ≤ k) : wharfref12_Put.f k ch seq data = some (putAns ch seq data) := by
  obtain ⟨k, rfl⟩ : ∃ m, k = m + 1 := ⟨k - 1, by omega⟩
  have no : ¬ Fok ch seq → wharfref12_Put.j0 (k + 1) true ch seq data = some (putAns ch seq data) := by
    intro h
    unfold putAns
    simp only [wharfref12_Put.j0]
    rw [if_pos trivial, if_neg h]
  unfold wharfref12_Put.f
  by_cases c1 : ch < 1
  · rw [if_pos c1]; exact no (fun h => by have := h.1; omega)
  rw [if_neg c1]
  by_cases c2 : ch > 5
  · rw [if_pos c2]; exact no (fun h => by have := h.2.1; omega)
  rw [if_neg c2]
  by_cases c3 : seq < 0
  · rw [if_pos c3]; exact no (fun h => by have := h.2.2.1; omega)
  rw [if_neg c3]
  by_cases c4 : seq > 65535
  · rw [decide_eq_true c4]; exact no (fun h => by have := h.2.2.2; omega)
  rw [decide_eq_false c4]
  unfold putAns
  rw [if_pos (show Fok ch seq from ⟨by omega, by omega, by omega, by omega⟩)]
  simp only [wharfref12_Put.j0]
  rw [if_neg Bool.false_ne_true]
  by_cases c : (data.size : Int) > 8192
  · rw [if_pos c, if_pos c]
  · have f0 : tlvFits ch 1 = true := (fits_iff _ _).mpr ⟨by omega, Or.inl ⟨rfl, by omega⟩⟩
    have f1 : tlvFits seq 2 = true := (fits_iff _ _).mpr ⟨by omega, Or.inr (Or.inl ⟨rfl, by omega⟩)⟩
    have f2 : tlvFits data.size 2 = true := (fits_iff _ _).mpr ⟨by omega, Or.inr (Or.inl ⟨rfl, by omega⟩)⟩
    have z0 := bytes_size ch 1 (Or.inl rfl)
    have z1 := bytes_size seq 2 (Or.inr (Or.inl rfl))
    have z2 := bytes_size data.size 2 (Or.inr (Or.inl rfl))
    have z3 := strSize 42 ch
    rw [if_neg c, if_neg c, refInt_eq _ _ k (by omega), if_pos f0, refInt_eq _ _ k (by omega), if_pos f1, refText_eq _ _ (by omega) k (by omega)]
    unfold txt
    rw [if_pos f2]
    simp only [Option.bind_some]
    rw [head_eq ch (by omega) (by omega), if_pos (by omega), if_pos (by omega), if_pos (by simp only [ByteArray.size_append]; omega)]
    rfl
theorem next_eq (n : Int) : flap_Next.f n = some (flapNext n) := flapNext_f n
theorem refNext_eq (n : Int) : wharfref12_Next.f n = some (flapNext n) := flapNext_f n

end Go.Proofs.Ythncdeeakhilfaa.Flap
