/-
  What glyph.Fold, Trim and Head compute, in plain terms.
-/
import Derived.Test.YtaplfbnjoifggaaTexts
import Derived.Test.YtaplfbnjoifggaaHx21
import Derived.Test.YtaplfbnjoifggaaHx23
import Derived.Test.YtaplfbnjoifggaaHx25
namespace Go.Proofs.Ytaplfbnjoifggaa.Utf
open Go.RowKit Go.Proofs.YtaplfbnjoifggaaW.PrintWords Go.Proofs.Ytaplfbnjoifggaa.Bytes Go.Lib Go.Proofs.Ytaplfbnjoifggaa.H

/-! ### Fold -/
def foldU (u : UInt8) : UInt8 := if 65 ≤ u.toNat ∧ u.toNat ≤ 90 then UInt8.ofNat (u.toNat + 32) else u
theorem fold_all : ∀ n : Nat, n < 256 → foldByte (n : Int) = if 65 ≤ n ∧ n ≤ 90 then ((n + 32 : Nat) : Int) else (n : Int) := by decide +kernel
theorem foldByte_u (u : UInt8) : UInt8.ofNat (foldByte (u.toNat : Int)).toNat = foldU u := by
  have hu := u.toNat_lt
  rw [fold_all u.toNat (by omega)]
  unfold foldU
  split
  · rfl
  · simp
theorem Fold_eq (s : ByteArray) (hs : s.size ≤ 140737488351232) : ∃ r, glyph_Fold.f s = some r ∧ L r = (L s).map foldU := by
  unfold glyph_Fold.f
  rw [if_pos (by omega)]
  refine ⟨_, rfl, ?_⟩
  rw [L_nums, bytesOf, List.map_map, List.map_map]
  exact List.map_congr_left fun u _ => foldByte_u u

/-! ### Trim -/
def blankU (u : UInt8) : Bool := u == 32 || u == 9 || u == 10 || u == 13
def trimL (l : List UInt8) : List UInt8 := l.dropWhile blankU
def trimR (l : List UInt8) : List UInt8 := (l.reverse.dropWhile blankU).reverse
theorem isBlank_eq (u : UInt8) : glyph_isBlank.f (u.toNat : Int) = some (blankU u) := by
  unfold glyph_isBlank.f blankU
  by_cases h1 : u = 32
  · subst h1; rfl
  by_cases h2 : u = 9
  · subst h2; rfl
  by_cases h3 : u = 10
  · subst h3; rfl
  by_cases h4 : u = 13
  · subst h4; rfl
  have n1 : ¬ (u.toNat : Int) = 32 := fun e => h1 (UInt8.toNat_inj.mp (by show u.toNat = 32; omega))
  have n2 : ¬ (u.toNat : Int) = 9 := fun e => h2 (UInt8.toNat_inj.mp (by show u.toNat = 9; omega))
  have n3 : ¬ (u.toNat : Int) = 10 := fun e => h3 (UInt8.toNat_inj.mp (by show u.toNat = 10; omega))
  have n4 : ¬ (u.toNat : Int) = 13 := fun e => h4 (UInt8.toNat_inj.mp (by show u.toNat = 13; omega))
  rw [if_neg n1, if_neg n2, if_neg n3]
  have e1 : (u == 32) = false := beq_eq_false_iff_ne.mpr h1
  have e2 : (u == 9) = false := beq_eq_false_iff_ne.mpr h2
  have e3 : (u == 10) = false := beq_eq_false_iff_ne.mpr h3
  have e4 : (u == 13) = false := beq_eq_false_iff_ne.mpr h4
  have e5 : ((u.toNat : Int) == 13) = false := beq_eq_false_iff_ne.mpr n4
  rw [e1, e2, e3, e4, e5]
  rfl
theorem bt_get (s : ByteArray) (i : Nat) (h : i < (L s).length) : bt s (i : Int) = (((L s)[i]).toNat : Int) := by
  rw [bt_L, Int.toNat_natCast, List.getD_eq_getElem?_getD, List.getElem?_eq_getElem h]
  rfl
theorem trim_back (s : ByteArray) (hs : s.size ≤ 140737488351232) (fr : Nat) : ∀ (d en : Nat) (k : Nat), fr + d = en → en ≤ s.size → d < k → ∃ r, glyph_Trim.l1 k s (fr : Int) (en : Int) = some r ∧ L r = trimR (((L s).drop fr).take d) := by
  intro d
  induction d with
  | zero =>
    intro en k h h1 hk
    obtain ⟨k, rfl⟩ : ∃ m, k = m + 1 := ⟨k - 1, by omega⟩
    simp only [glyph_Trim.l1]
    rw [if_neg (by omega), if_pos (by omega), if_pos (by omega), if_pos (by omega)]
    refine ⟨_, rfl, ?_⟩
    rw [L_extract, Int.toNat_natCast, Int.toNat_natCast, show en - fr = 0 by omega]
    rfl
  | succ d ih =>
    intro en k h h1 hk
    obtain ⟨k, rfl⟩ : ∃ m, k = m + 1 := ⟨k - 1, by omega⟩
    have hlt : en - 1 < (L s).length := by rw [← size_L]; omega
    have hd : ((L s).drop fr).take (d + 1) = ((L s).drop fr).take d ++ [(L s)[en - 1]] := by
      have hl : d < ((L s).drop fr).length := by rw [List.length_drop, ← size_L]; omega
      rw [List.take_succ_eq_append_getElem hl, List.getElem_drop]
      congr 2
      exact getElem_congr_idx (by omega)
    simp only [glyph_Trim.l1]
    have hw : wrap64 ((en : Int) - 1) = ((en - 1 : Nat) : Int) := by rw [wrap_id _ (by omega) (by omega)]; omega
    rw [if_pos (by omega), hw, if_pos (by omega), if_pos (by omega), bt_get s _ hlt, isBlank_eq]
    simp only [Option.bind_some]
    by_cases hb : blankU (L s)[en - 1] = true
    · rw [if_pos hb]
      obtain ⟨r, hr, hL⟩ := ih (en - 1) k (by omega) (by omega) (by omega)
      refine ⟨r, hr, ?_⟩
      rw [hL, hd]
      unfold trimR
      rw [List.reverse_append, List.reverse_singleton, List.singleton_append, List.dropWhile_cons_of_pos hb]
    · rw [if_neg hb, if_pos (by omega), if_pos (by omega), if_pos (by omega)]
      refine ⟨_, rfl, ?_⟩
      rw [L_extract, Int.toNat_natCast, Int.toNat_natCast, show en - fr = d + 1 by omega, hd]
      unfold trimR
      rw [List.reverse_append, List.reverse_singleton, List.singleton_append, List.dropWhile_cons_of_neg hb, List.reverse_cons, List.reverse_reverse]
theorem trim_front (s : ByteArray) (hs : s.size ≤ 140737488351232) : ∀ (d fr : Nat) (k : Nat), fr + d = s.size → d + s.size + 4 ≤ k → ∃ r, glyph_Trim.l0 k s (fr : Int) (s.size : Int) = some r ∧ L r = trimR (trimL ((L s).drop fr)) := by
  intro d
  induction d with
  | zero =>
    intro fr k h hk
    obtain ⟨k, rfl⟩ : ∃ m, k = m + 2 := ⟨k - 2, by omega⟩
    simp only [glyph_Trim.l0]
    rw [if_neg (by omega)]
    simp only [glyph_Trim.j1]
    obtain ⟨r, hr, hL⟩ := trim_back s hs fr 0 s.size k (by omega) (Nat.le_refl _) (by omega)
    refine ⟨r, hr, ?_⟩
    rw [hL, List.drop_of_length_le (by rw [← size_L]; omega)]
    rfl
  | succ d ih =>
    intro fr k h hk
    obtain ⟨k, rfl⟩ : ∃ m, k = m + 1 := ⟨k - 1, by omega⟩
    have hlt : fr < (L s).length := by rw [← size_L]; omega
    simp only [glyph_Trim.l0]
    rw [if_pos (by omega), if_pos (by omega), if_pos (by omega), bt_get s _ hlt, isBlank_eq, wrap_id ((fr : Int) + 1) (by omega) (by omega)]
    simp only [Option.bind_some]
    rw [List.drop_eq_getElem_cons hlt]
    by_cases hb : blankU (L s)[fr] = true
    · rw [if_pos hb]
      obtain ⟨r, hr, hL⟩ := ih (fr + 1) k (by omega) (by omega)
      refine ⟨r, hr, ?_⟩
      rw [hL]
      unfold trimL
      rw [List.dropWhile_cons_of_pos hb]
    · rw [if_neg hb]
      obtain ⟨k, rfl⟩ : ∃ m, k = m + 1 := ⟨k - 1, by omega⟩
      simp only [glyph_Trim.j1]
      obtain ⟨r, hr, hL⟩ := trim_back s hs fr (d + 1) s.size k (by omega) (Nat.le_refl _) (by omega)
      refine ⟨r, hr, ?_⟩
      rw [hL, List.take_of_length_le (by rw [List.length_drop, ← size_L]; omega), List.drop_eq_getElem_cons hlt]
      unfold trimL
      rw [List.dropWhile_cons_of_neg hb]
theorem Trim_eq (s : ByteArray) (hs : s.size ≤ 140737488351232) (k : Nat) (hk : 2 * s.size + 4 ≤ k) : ∃ r, glyph_Trim.f k s = some r ∧ L r = trimR (trimL (L s)) := by
  obtain ⟨r, hr, hL⟩ := trim_front s hs s.size 0 k (by omega) (by omega)
  exact ⟨r, hr, by rw [hL, List.drop_zero]⟩

/-! ### Head -/
def contU (u : UInt8) : Bool := u.toNat / 64 == 2
def headAt (l : List UInt8) : Nat → Nat
  | 0 => 0
  | m + 1 => if contU (l.getD (m + 1) 0) = true then headAt l m else m + 1
theorem and192 : ∀ n : Nat, n < 256 → (Go.bits .and .u8 (n : Int) 192 = 128 ↔ n / 64 = 2) := by decide +kernel
theorem head_loop (s : ByteArray) (hs : s.size ≤ 140737488351232) : ∀ (m k : Nat), (m < s.size ∨ m = 0) → m < k → ∃ r, glyph_Head.l0 k s (m : Int) = some r ∧ L r = (L s).take (headAt (L s) m) := by
  intro m
  induction m with
  | zero =>
    intro k h hk
    obtain ⟨k, rfl⟩ : ∃ m, k = m + 1 := ⟨k - 1, by omega⟩
    simp only [glyph_Head.l0]
    rw [if_neg (by omega), if_pos (by omega), if_pos (by omega)]
    refine ⟨_, rfl, ?_⟩
    rw [L_head]
    rfl
  | succ m ih =>
    intro k h hk
    obtain ⟨k, rfl⟩ : ∃ m, k = m + 1 := ⟨k - 1, by omega⟩
    simp only [glyph_Head.l0]
    have hb : bt s ((m + 1 : Nat) : Int) = (((L s).getD (m + 1) 0).toNat : Int) := by rw [bt_L, Int.toNat_natCast]
    have hu := ((L s).getD (m + 1) 0).toNat_lt
    rw [if_pos (by omega), if_pos (by omega), if_pos (by omega), hb]
    have hc := and192 _ hu
    by_cases hx : ((L s).getD (m + 1) 0).toNat / 64 = 2
    · rw [if_pos (hc.mpr hx)]
      have hw : wrap64 (((m + 1 : Nat) : Int) - 1) = (m : Int) := by rw [wrap_id _ (by omega) (by omega)]; omega
      rw [hw]
      obtain ⟨r, hr, hL⟩ := ih k (by omega) (by omega)
      refine ⟨r, hr, ?_⟩
      rw [hL, headAt, if_pos (by unfold contU; rw [hx]; rfl)]
    · rw [if_neg (fun e => hx (hc.mp e)), if_pos (by omega)]
      refine ⟨_, rfl, ?_⟩
      rw [L_head, Int.toNat_natCast, headAt, if_neg (by unfold contU; simpa using hx)]
/-- how many bytes of a text its front has -/
def headLen (l : List UInt8) (n : Int) : Nat := if n ≥ (l.length : Int) then l.length else headAt l (if n < 0 then 0 else n.toNat)
theorem Head_eq (s : ByteArray) (hs : s.size ≤ 140737488351232) (n : Int) (k : Nat) (hk : s.size + 1 ≤ k) : ∃ r, glyph_Head.f k s n = some r ∧ L r = (L s).take (headLen (L s) n) := by
  unfold glyph_Head.f headLen
  by_cases h : n ≥ (s.size : Int)
  · rw [if_pos h]
    refine ⟨s, rfl, ?_⟩
    rw [if_pos (by rw [← size_L]; exact h), List.take_length]
  · rw [if_neg h, if_neg (by rw [← size_L]; exact h)]
    by_cases hn : n < 0
    · have hm : mx n 0 = ((0 : Nat) : Int) := by unfold mx; rw [if_pos hn]; rfl
      rw [hm, if_pos hn]
      exact head_loop s hs _ k (Or.inr rfl) (by omega)
    · have hm : mx n 0 = (n.toNat : Int) := by unfold mx; rw [if_neg hn]; omega
      rw [hm, if_neg hn]
      exact head_loop s hs _ k (by omega) (by omega)
theorem headAt_le (l : List UInt8) : ∀ m, headAt l m ≤ m
  | 0 => Nat.le_refl _
  | m + 1 => by
    rw [headAt]
    split
    · exact Nat.le_succ_of_le (headAt_le l m)
    · exact Nat.le_refl _
theorem headLen_le (l : List UInt8) (n : Int) : headLen l n ≤ l.length ∧ (headLen l n : Int) ≤ mx n 0 := by
  unfold headLen mx
  split
  · exact ⟨Nat.le_refl _, by split <;> omega⟩
  · have := headAt_le l (if n < 0 then 0 else n.toNat)
    split at this <;> split <;> (refine ⟨by omega, by omega⟩)
end Go.Proofs.Ytaplfbnjoifggaa.Utf
