/-
  Where a text may be cut: its front and what is behind it are texts.
-/
import Derived.Test.YtaplfbnjoifggaaFolds
namespace Go.Proofs.Ytaplfbnjoifggaa.Utf
open Go.RowKit Go.Proofs.YtaplfbnjoifggaaW.PrintWords Go.Proofs.Ytaplfbnjoifggaa.Bytes Go.Lib Go.Proofs.Ytaplfbnjoifggaa.H

theorem enc_first (c : Nat) (h : Sign c) : contU ((enc c).getD 0 0) = false := by
  unfold Sign at h
  unfold enc contU
  by_cases h1 : c < 128
  · rw [if_pos h1, List.getD_cons_zero, toNat_of _ (by omega)]
    simp; omega
  · rw [if_neg h1]
    by_cases h2 : c < 2048
    · rw [if_pos h2, List.getD_cons_zero, toNat_of _ (by omega)]
      simp; omega
    · rw [if_neg h2]
      by_cases h3 : c < 65536
      · rw [if_pos h3, List.getD_cons_zero, toNat_of _ (by omega)]
        simp; omega
      · rw [if_neg h3, List.getD_cons_zero, toNat_of _ (by omega)]
        simp; omega
theorem enc_later (c : Nat) (j : Nat) (h0 : 0 < j) (h1 : j < width c) : contU ((enc c).getD j 0) = true := by
  have e : ∀ x : Nat, x < 64 → ((UInt8.ofNat (128 + x)).toNat / 64 == 2) = true := by
    intro x hx
    rw [toNat_of _ (by omega), beq_iff_eq]
    omega
  unfold width at h1
  unfold enc contU
  by_cases c1 : c < 128
  · rw [if_pos c1] at h1; omega
  · rw [if_neg c1] at h1 ⊢
    by_cases c2 : c < 2048
    · rw [if_pos c2] at h1 ⊢
      obtain rfl : j = 1 := by omega
      exact e _ (by omega)
    · rw [if_neg c2] at h1 ⊢
      by_cases c3 : c < 65536
      · rw [if_pos c3] at h1 ⊢
        have : j = 1 ∨ j = 2 := by omega
        rcases this with rfl | rfl
        · exact e _ (by omega)
        · exact e _ (by omega)
      · rw [if_neg c3] at h1 ⊢
        have : j = 1 ∨ j = 2 ∨ j = 3 := by omega
        rcases this with rfl | rfl | rfl
        · exact e _ (by omega)
        · exact e _ (by omega)
        · exact e _ (by omega)
/-- a place at which no byte stands that goes on with a sign -/
def Bound (l : List UInt8) (j : Nat) : Prop := l.length ≤ j ∨ contU (l.getD j 0) = false
theorem Text.cut {cs : List Nat} : ∀ {l : List UInt8} (j : Nat), Text cs l → Bound l j → j ≤ l.length → ∃ us bs, cs = us ++ bs ∧ Text us (l.take j) ∧ Text bs (l.drop j) := by
  induction cs with
  | nil =>
    intro l j h _ hj
    have h : l = [] := h
    subst h
    exact ⟨[], [], rfl, by simp [Text], by simp [Text]⟩
  | cons c cs ih =>
    intro l j h hb hj
    obtain ⟨t, rfl, hs, hp, ht⟩ := h
    have hw := width_pos c
    have hlen := enc_length c
    by_cases h0 : j = 0
    · subst h0
      exact ⟨[], c :: cs, rfl, by simp [Text], ⟨t, rfl, hs, hp, ht⟩⟩
    · by_cases h1 : j < width c
      · exfalso
        rcases hb with hb | hb
        · rw [List.length_append, hlen] at hb
          omega
        · have : (enc c ++ t).getD j 0 = (enc c).getD j 0 := by
            rw [List.getD_eq_getElem?_getD, List.getD_eq_getElem?_getD, List.getElem?_append_left (by omega)]
          rw [this, enc_later c j (by omega) h1] at hb
          cases hb
      · rw [List.length_append, hlen] at hj
        have hg : ∀ i, width c ≤ i → (enc c ++ t).getD i 0 = t.getD (i - width c) 0 := fun i hi => by
          rw [List.getD_eq_getElem?_getD, List.getD_eq_getElem?_getD, List.getElem?_append_right (by omega), hlen]
        have hb' : Bound t (j - width c) := by
          rcases hb with hb | hb
          · rw [List.length_append, hlen] at hb
            exact Or.inl (by omega)
          · rw [hg j (by omega)] at hb
            exact Or.inr hb
        obtain ⟨us, bs, rfl, h2, h3⟩ := ih (j - width c) ht hb' (by omega)
        refine ⟨c :: us, bs, rfl, ⟨t.take (j - width c), ?_, hs, hp, h2⟩, ?_⟩
        · rw [List.take_append, hlen, List.take_of_length_le (by omega)]
        · rw [List.drop_append, hlen, List.drop_of_length_le (by omega), List.nil_append]
          exact h3
/-- of four places behind one another one is a bound. -/
theorem Text.near {cs : List Nat} : ∀ {l : List UInt8} (m : Nat), Text cs l → m < l.length → ∃ j, j ≤ m ∧ m < j + 4 ∧ contU (l.getD j 0) = false := by
  induction cs with
  | nil =>
    intro l m h hm
    have h : l = [] := h
    subst h
    simp at hm
  | cons c cs ih =>
    intro l m h hm
    obtain ⟨t, rfl, hs, hp, ht⟩ := h
    have hw := width_pos c
    have hlen := enc_length c
    rw [List.length_append, hlen] at hm
    by_cases h1 : m < width c
    · refine ⟨0, by omega, by omega, ?_⟩
      have : (enc c ++ t).getD 0 0 = (enc c).getD 0 0 := by
        rw [List.getD_eq_getElem?_getD, List.getD_eq_getElem?_getD, List.getElem?_append_left (by omega)]
      rw [this]
      exact enc_first c hs
    · obtain ⟨j, h2, h3, h4⟩ := ih (m - width c) ht (by omega)
      refine ⟨j + width c, by omega, by omega, ?_⟩
      rw [List.getD_eq_getElem?_getD, List.getElem?_append_right (by omega), hlen, Nat.add_sub_cancel]
      rwa [List.getD_eq_getElem?_getD] at h4
theorem headAt_bound (l : List UInt8) : ∀ m, headAt l m = 0 ∨ contU (l.getD (headAt l m) 0) = false
  | 0 => Or.inl rfl
  | m + 1 => by
    rw [headAt]
    by_cases h : contU (l.getD (m + 1) 0) = true
    · rw [if_pos h]
      exact headAt_bound l m
    · rw [if_neg h]
      exact Or.inr (by simpa using h)
theorem headAt_ge (l : List UInt8) : ∀ m j, j ≤ m → contU (l.getD j 0) = false → j ≤ headAt l m
  | 0, j, h, _ => by omega
  | m + 1, j, h, hc => by
    rw [headAt]
    by_cases h1 : contU (l.getD (m + 1) 0) = true
    · rw [if_pos h1]
      by_cases h2 : j = m + 1
      · rw [h2, h1] at hc
        cases hc
      · exact headAt_ge l m j (by omega) hc
    · rw [if_neg h1]
      exact h
theorem zero_bound {cs : List Nat} {l : List UInt8} (h : Text cs l) : Bound l 0 := by
  cases cs with
  | nil =>
    have h : l = [] := h
    subst h
    exact Or.inl (Nat.le_refl _)
  | cons c cs =>
    obtain ⟨t, rfl, hs, _⟩ := h
    have hw := width_pos c
    have hlen := enc_length c
    refine Or.inr ?_
    have : (enc c ++ t).getD 0 0 = (enc c).getD 0 0 := by
      rw [List.getD_eq_getElem?_getD, List.getD_eq_getElem?_getD, List.getElem?_append_left (by omega)]
    rw [this]
    exact enc_first c hs
theorem headLen_bound {cs : List Nat} {l : List UInt8} (h : Text cs l) (n : Int) : Bound l (headLen l n) := by
  unfold headLen
  split
  · exact Or.inl (Nat.le_refl _)
  · rcases headAt_bound l (if n < 0 then 0 else n.toNat) with h0 | h0
    · rw [h0]
      exact zero_bound h
    · exact Or.inr h0
end Go.Proofs.Ytaplfbnjoifggaa.Utf
