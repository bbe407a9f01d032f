-- written by hp.py for this claim, out of the kit's printer and texts of my own
import Derived.Test.YtaaoaikfkgbfhaaHx0
import Derived.Lib.ConvBytes
namespace Go.Proofs.Ytaaoaikfkgbfhaa.H
open Go.RowKit Go.Proofs.YtaaoaikfkgbfhaaW.PrintWords Go.Proofs.YtaaoaikfkgbfhaaW.PrintLast Go.Proofs.YtaaoaikfkgbfhaaW.PrintMore
attribute [local go_sem] max2_int min2_int max_two min_two max_three min_three max_four min_four   -- for this text's walks alone
set_option linter.unusedVariables false
set_option linter.unusedSimpArgs false

def BytesAt (w : World) (B N : Nat) (xs : List Int) : Prop :=
  ∃ zs : List Value, w.heap[B]? = some (.cells (nums .u8 xs ++ zs).toArray 5 (N, N + 1)) ∧ (nums .u8 xs ++ zs).length = N
theorem BytesAt.cell {w : World} {B N : Nat} {xs : List Int} (h : BytesAt w B N xs) (i : Nat) (hi : i < xs.length) : w.cell? ⟨B, i, none⟩ = some (.int .u8 (xs.getD i 0)) := by
  obtain ⟨zs, hb, _⟩ := h
  rw [cell_of_row w B i _ _ _ hb, List.getElem?_toArray, List.getElem?_append_left (by rw [nums_length]; exact hi)]
  simp [nums, List.getD_eq_getElem?_getD, hi]
theorem BytesAt.frozen {w : World} {B N : Nat} {xs : List Int} (h : BytesAt w B N xs) (i : Nat) (hi : i < xs.length) : w.frozen? ⟨B, i, none⟩ = false := by
  obtain ⟨zs, hb, hl⟩ := h
  rw [List.length_append, nums_length] at hl
  have : ¬ N ≤ i := by omega
  simp [World.frozen?, hb, this]
theorem BytesAt.set {w : World} {B N : Nat} {xs : List Int} (h : BytesAt w B N xs) (i : Nat) (hi : i < xs.length) (v : Int) : BytesAt (w.setCell ⟨B, i, none⟩ (.int .u8 v)) B N (xs.set i v) := by
  obtain ⟨zs, hb, hl⟩ := h
  refine ⟨zs, ?_, by simpa [nums] using hl⟩
  have e : (nums .u8 (xs.set i v) ++ zs).toArray = (nums .u8 xs ++ zs).toArray.setIfInBounds i (.int .u8 v) := by
    rw [List.setIfInBounds_toArray, List.set_append_left _ _ (by rw [nums_length]; exact hi)]
    congr 1
    simp [nums, List.map_set]
  rw [e]
  simp [World.setCell, Array.getElem?_modify, hb]
theorem BytesAt.cap (w : World) (s : ByteArray) : s.size ≤ grownCap w s.size 0 5 := by
  exact grownCap_ge _ _ _ _
theorem BytesAt.of (w : World) (s : ByteArray) : BytesAt (Lib.bytesWorld w 5 s) w.heap.size (grownCap w s.size 0 5) (bytesOf s) := by
  refine ⟨List.replicate (grownCap w s.size 0 5 - s.size) (.int .u8 0), ?_, ?_⟩
  · rw [Lib.bytesWorld_at_new]
    have hz : (Lib.bytesCells w 5 s).size = grownCap w s.size 0 5 := by
      have := BytesAt.cap w s
      simp [Lib.bytesCells]
      omega
    rw [hz]
    have e : Lib.bytesCells w 5 s = (nums .u8 (bytesOf s) ++ List.replicate (grownCap w s.size 0 5 - s.size) (Value.int .u8 0)).toArray := by
      apply Array.ext'
      simp only [Lib.bytesCells, nums, bytesOf, Array.toList_append, Array.toList_map, Array.toList_replicate, List.map_map]
      rfl
    rw [e]
  · have := BytesAt.cap w s
    rw [List.length_append, nums_length, bytesOf_length, List.length_replicate]
    omega
theorem bytesWorld_below' (w : World) (s : ByteArray) : Below w.heap.size w (Lib.bytesWorld w 5 s) :=
  ⟨rfl, rfl, rfl, by rw [Lib.bytesWorld_size]; omega, fun k hk => Lib.bytesWorld_at_old w _ s k hk⟩
theorem BytesAt.conv {w : World} {B N : Nat} {xs : List Int} (h : BytesAt w B N xs) (c : Nat) : (convert 38 9 (.slice (some ⟨B, 0, none⟩) xs.length c)).run Try.prog w = .ok (.string (strOfNums xs)) w :=
  run_convert_bytes_arg w 38 5 Try.underlying38 Try.underlying5 B 0 _ c xs rfl (fun i hi => by rw [Nat.zero_add]; exact h.cell i hi) 9 Try.underlying9
def foldUp (g : Int → Int) (xs : List Int) (k : Nat) : List Int := (xs.take k).map g ++ xs.drop k
theorem foldUp_length (g : Int → Int) (xs : List Int) (k : Nat) : (foldUp g xs k).length = xs.length := by simp [foldUp]; omega
theorem foldUp_at (g : Int → Int) (xs : List Int) (k : Nat) (h : k < xs.length) : (foldUp g xs k).getD k 0 = xs.getD k 0 := by
  simp only [foldUp, List.getD_eq_getElem?_getD]
  rw [List.getElem?_append_right (by simp; omega)]
  simp [Nat.min_eq_left (Nat.le_of_lt h)]
theorem foldUp_set (g : Int → Int) (xs : List Int) (k : Nat) (h : k < xs.length) : (foldUp g xs k).set k (g (xs.getD k 0)) = foldUp g xs (k + 1) := by
  apply List.ext_getElem?
  intro j
  simp only [foldUp, List.getD_eq_getElem?_getD]
  by_cases hj : j = k
  · subst hj
    rw [List.getElem?_set_self (by simp; omega), List.getElem?_append_left (by simp; omega)]
    simp [h]
  · rw [List.getElem?_set_ne (fun e => hj e.symm)]
    by_cases hlt : j < k
    · rw [List.getElem?_append_left (by simp; omega), List.getElem?_append_left (by simp; omega)]
      simp [hlt, Nat.lt_succ_of_lt hlt]
    · rw [List.getElem?_append_right (by simp; omega), List.getElem?_append_right (by simp; omega)]
      simp only [List.length_map, List.length_take, List.getElem?_drop]
      congr 1
      omega
theorem foldUp_same (g : Int → Int) (xs : List Int) (k : Nat) (h : k < xs.length) (hs : g (xs.getD k 0) = xs.getD k 0) : foldUp g xs k = foldUp g xs (k + 1) := by
  rw [← foldUp_set g xs k h, hs, ← foldUp_at g xs k h]
  apply List.ext_getElem?
  intro j
  by_cases hj : j = k
  · subst hj
    rw [List.getElem?_set_self (by rw [foldUp_length]; exact h), List.getD_eq_getElem?_getD, List.getElem?_eq_getElem (by rw [foldUp_length]; exact h)]
    rfl
  · rw [List.getElem?_set_ne (fun e => hj e.symm)]
theorem bytesOf_rd (s : ByteArray) (k : Nat) : 0 ≤ (bytesOf s).getD k 0 ∧ (bytesOf s).getD k 0 ≤ 255 := by
  simp only [bytesOf, List.getD_eq_getElem?_getD, List.getElem?_map]
  cases h : s.data.toList[k]? with
  | none => simp
  | some u => have := u.toNat_lt; simp; omega

end Go.Proofs.Ytaaoaikfkgbfhaa.H
