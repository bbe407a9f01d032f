-- written by hp.py for this claim, out of the kit's printer and texts of my own
import Derived.Test.YtlcnhmigbdaajaaHx0
import Derived.Test.YtlcnhmigbdaajaaHx20001
import Derived.Test.YtlcnhmigbdaajaaHx20003
import Derived.Test.YtlcnhmigbdaajaaHx20005
import Derived.Test.YtlcnhmigbdaajaaHx20009
import Derived.Test.YtlcnhmigbdaajaaHx20010
import Derived.Test.YtlcnhmigbdaajaaHx20010
namespace Go.Proofs.Ytlcnhmigbdaajaa.H
open Go.RowKit Go.Proofs.YtlcnhmigbdaajaaW.PrintWords Go.Proofs.YtlcnhmigbdaajaaW.PrintLast Go.Proofs.YtlcnhmigbdaajaaW.PrintMore
attribute [local go_sem] max2_int min2_int max_two min_two max_three min_three max_four min_four   -- for this text's walks alone
set_option linter.unusedVariables false
set_option linter.unusedSimpArgs false

/-- the i-th -/
def alG (l : List S58) (i : Nat) : S58 := l.getD i ⟨0, 0, ⟨#[]⟩⟩
theorem alG_get {l : List S58} {i : Nat} {x : S58} (h : l[i]? = some x) : alG l i = x := by unfold alG; rw [List.getD_eq_getElem?_getD, h]; rfl
theorem alG_some {l : List S58} {i : Nat} (h : i < l.length) : l[i]? = some (alG l i) := by unfold alG; rw [List.getD_eq_getElem?_getD, List.getElem?_eq_getElem h]; rfl
theorem alG_set (l : List S58) (i j : Nat) (x : S58) (h : i < l.length) : alG (l.set i x) j = if i = j then x else alG l j := by
  unfold alG
  rw [List.getD_eq_getElem?_getD, List.getD_eq_getElem?_getD, List.getElem?_set]
  split
  · first | rfl | (rw [if_pos (by omega)]; rfl)
  · rfl
theorem alG_swap (l : List S58) (i j m : Nat) (x y : S58) (hi : i < l.length) (hj : j < l.length) : alG ((l.set i y).set j x) m = if j = m then x else if i = m then y else alG l m := by
  rw [alG_set _ _ _ _ (by simpa using hj), alG_set _ _ _ _ hi]
/-- not behind -/
def alLe (x y : S58) : Prop := x.f0 < y.f0 ∨ x.f0 = y.f0 ∧ x.f1 ≤ y.f1
theorem alLe_trans {x y z : S58} (h : alLe x y) (k : alLe y z) : alLe x z := by unfold alLe at *; omega
theorem alLe_refl (x : S58) : alLe x x := .inr ⟨rfl, Int.le_refl _⟩
theorem alLess_iff (x y : S58) : alLess x y = true ↔ ¬ alLe y x := by
  unfold alLess alOr cmpInt alLe
  rw [decide_eq_true_eq]
  by_cases h1 : x.f0 < y.f0
  · simp only [if_pos h1]
    constructor <;> intro h <;> first | omega | decide
  · by_cases h2 : y.f0 < x.f0
    · simp only [if_neg h1, if_pos h2]
      constructor <;> intro h
      · rw [if_neg (by decide)] at h
        exact absurd h (by decide)
      · omega
    · simp only [if_neg h1, if_neg h2]
      by_cases h3 : x.f1 < y.f1
      · simp only [if_pos h3]
        constructor <;> intro h <;> first | omega | decide
      · by_cases h4 : y.f1 < x.f1
        · simp only [if_neg h3, if_pos h4]
          constructor <;> intro h
          · exact absurd h (by decide)
          · omega
        · simp only [if_neg h3, if_neg h4]
          constructor <;> intro h
          · exact absurd h (by decide)
          · omega
theorem alLess_le {x y : S58} (h : alLess x y = true) : alLe x y := by
  have := (alLess_iff x y).mp h
  unfold alLe at *
  omega
theorem alLess_not {x y : S58} (h : ¬ alLess x y = true) : alLe y x := by
  rw [alLess_iff] at h
  exact Classical.not_not.mp h
/-- from s on none is ahead of the one over it -/
def HeapFrom (s n : Nat) (l : List S58) : Prop := ∀ m, 0 < m → m < n → s ≤ (m - 1) / 2 → alLe (alG l ((m - 1) / 2)) (alG l m)
def Heap (l : List S58) : Prop := HeapFrom 0 l.length l
def UpInv (l : List S58) (j : Nat) : Prop := (∀ m, 0 < m → m < l.length → m ≠ j → alLe (alG l ((m - 1) / 2)) (alG l m)) ∧ (∀ m, 0 < m → m < l.length → (m - 1) / 2 = j → 0 < j → alLe (alG l ((j - 1) / 2)) (alG l m))
theorem alUp_heap : ∀ (k : Nat) (l : List S58) (j : Nat), j < k → j < l.length → UpInv l j → Heap (alUp k l j)
  | 0, _, _, h, _, _ => absurd h (Nat.not_lt_zero _)
  | k + 1, l, j, hk, hj, ⟨h1, h2⟩ => by
    rw [alUp, alG_some hj, alG_some (show (j - 1) / 2 < l.length by omega)]
    simp only
    by_cases c0 : (j - 1) / 2 = j
    · rw [if_pos c0]
      intro m hm hm2 _
      exact h1 m hm hm2 (by omega)
    rw [if_neg c0]
    by_cases c1 : alLess (alG l j) (alG l ((j - 1) / 2)) = true
    · rw [if_pos c1]
      refine alUp_heap k _ _ (by omega) (by simp; omega) ⟨?_, ?_⟩
      · intro m hm hm2 hne
        simp only [List.length_set] at hm2
        rw [alG_swap _ _ _ _ _ _ (by omega) hj, alG_swap _ _ _ _ _ _ (by omega) hj]
        by_cases e1 : m = j
        · subst e1
          rw [if_neg (by omega), if_pos rfl, if_pos rfl]
          exact alLess_le c1
        · rw [if_neg (show ¬ j = m by omega), if_neg (show ¬ (j - 1) / 2 = m by omega)]
          by_cases e2 : j = (m - 1) / 2
          · rw [if_pos e2]
            exact h2 m hm hm2 e2.symm (by omega)
          · rw [if_neg e2]
            by_cases e3 : (j - 1) / 2 = (m - 1) / 2
            · rw [if_pos e3]
              have := h1 m hm hm2 e1
              rw [← e3] at this
              exact alLe_trans (alLess_le c1) this
            · rw [if_neg e3]
              exact h1 m hm hm2 e1
      · intro m hm hm2 hp hp0
        simp only [List.length_set] at hm2
        rw [alG_swap _ _ _ _ _ _ (by omega) hj, alG_swap _ _ _ _ _ _ (by omega) hj]
        rw [if_neg (by omega), if_neg (by omega)]
        have hpp := h1 ((j - 1) / 2) hp0 (by omega) (by omega)
        by_cases e1 : j = m
        · rw [if_pos e1]
          exact hpp
        · rw [if_neg e1, if_neg (show ¬ (j - 1) / 2 = m by omega)]
          have := h1 m hm hm2 (fun e => e1 e.symm)
          rw [hp] at this
          exact alLe_trans hpp this
    · rw [if_neg c1]
      intro m hm hm2 _
      by_cases e1 : m = j
      · subst e1
        exact alLess_not c1
      · exact h1 m hm hm2 e1
def DownInv (s n : Nat) (l : List S58) (i : Nat) : Prop := s ≤ i ∧ (∀ m, 0 < m → m < n → s ≤ (m - 1) / 2 → (m - 1) / 2 ≠ i → alLe (alG l ((m - 1) / 2)) (alG l m)) ∧ (∀ m, 0 < m → m < n → (m - 1) / 2 = i → 0 < i → s ≤ (i - 1) / 2 → alLe (alG l ((i - 1) / 2)) (alG l m))
theorem alKid_least (n : Nat) (l : List S58) (i : Nat) (hn : n ≤ l.length) (h : 2 * i + 1 < n) : (alKid n l i - 1) / 2 = i ∧ ∀ m, 0 < m → m < n → (m - 1) / 2 = i → alLe (alG l (alKid n l i)) (alG l m) := by
  unfold alKid
  by_cases c : 2 * i + 2 < n
  · rw [if_pos c, alG_some (show 2 * i + 2 < l.length by omega), alG_some (show 2 * i + 1 < l.length by omega)]
    simp only
    by_cases c1 : alLess (alG l (2 * i + 2)) (alG l (2 * i + 1)) = true
    · rw [if_pos c1]
      refine ⟨by omega, fun m hm hm2 hp => ?_⟩
      have : m = 2 * i + 1 ∨ m = 2 * i + 2 := by omega
      rcases this with rfl | rfl
      · exact alLess_le c1
      · exact alLe_refl _
    · rw [if_neg c1]
      refine ⟨by omega, fun m hm hm2 hp => ?_⟩
      have : m = 2 * i + 1 ∨ m = 2 * i + 2 := by omega
      rcases this with rfl | rfl
      · exact alLe_refl _
      · exact alLess_not c1
  · rw [if_neg c]
    refine ⟨by omega, fun m hm hm2 hp => ?_⟩
    have : m = 2 * i + 1 := by omega
    subst this
    exact alLe_refl _
theorem alDown_heap (s n : Nat) : ∀ (k : Nat) (l : List S58) (i : Nat), n - i ≤ k → n ≤ l.length → i < l.length → DownInv s n l i → HeapFrom s n (alDown n k l i)
  | 0, l, i, hk, _, _, ⟨h0, h1, _⟩ => by
    intro m hm hm2 hs
    exact h1 m hm hm2 hs (by omega)
  | k + 1, l, i, hk, hn, hil, ⟨h0, h1, h2⟩ => by
    rw [alDown]
    by_cases c : 2 * i + 1 < n
    · have hkl := alKid_lt n l i c
      obtain ⟨hkp, hleast⟩ := alKid_least n l i hn c
      rw [if_pos c, alG_some (show alKid n l i < l.length by omega), alG_some hil]
      simp only
      generalize alKid n l i = j at *
      by_cases c1 : alLess (alG l j) (alG l i) = true
      · rw [if_pos c1]
        refine alDown_heap s n k _ _ (by omega) (by simpa using hn) (by simp; omega) ⟨by omega, ?_, ?_⟩
        · intro m hm hm2 hs hne
          rw [alG_swap _ _ _ _ _ _ hil (by omega), alG_swap _ _ _ _ _ _ hil (by omega)]
          rw [if_neg (show ¬ j = (m - 1) / 2 from fun e => hne e.symm)]
          by_cases e1 : i = (m - 1) / 2
          · rw [if_pos e1]
            by_cases e2 : j = m
            · rw [if_pos e2]
              exact alLess_le c1
            · rw [if_neg e2, if_neg (show ¬ i = m by omega)]
              exact hleast m hm hm2 e1.symm
          · rw [if_neg e1]
            rw [if_neg (show ¬ j = m from fun e => e1 (by rw [← e]; exact hkp.symm))]
            by_cases e2 : i = m
            · rw [if_pos e2, ← e2]
              rw [← e2] at hs
              exact h2 j (by omega) hkl.2 hkp (by omega) hs
            · rw [if_neg e2]
              exact h1 m hm hm2 hs (fun e => e1 e.symm)
        · intro m hm hm2 hp hj0 hs
          rw [alG_swap _ _ _ _ _ _ hil (by omega), alG_swap _ _ _ _ _ _ hil (by omega)]
          rw [hkp]
          rw [if_neg (show ¬ j = i by omega), if_pos rfl, if_neg (show ¬ j = m by omega), if_neg (show ¬ i = m by omega)]
          have := h1 m hm hm2 (by omega) (by omega)
          rw [hp] at this
          exact this
      · rw [if_neg c1]
        intro m hm hm2 hs
        by_cases e1 : (m - 1) / 2 = i
        · rw [e1]
          exact alLe_trans (alLess_not c1) (hleast m hm hm2 e1)
        · exact h1 m hm hm2 hs e1
    · rw [if_neg c]
      intro m hm hm2 hs
      exact h1 m hm hm2 hs (by omega)
theorem alInitN_heap (n : Nat) : ∀ (k : Nat) (l : List S58), l.length = n → k ≤ n → HeapFrom k n l → HeapFrom 0 n (alInitN n k l)
  | 0, l, _, _, h => h
  | k + 1, l, hl, hk, h => by
    rw [alInitN]
    refine alInitN_heap n k _ (by rw [alDown_length]; exact hl) (by omega) (alDown_heap k n (n - k) l k (Nat.le_refl _) (by omega) (by omega) ⟨Nat.le_refl _, fun m hm hm2 hs hne => h m hm hm2 (by omega), fun m hm hm2 hp hk0 hs => by omega⟩)
theorem alInit_heap (l : List S58) : Heap (alInit l) := by
  have hl : (alInit l).length = l.length := (alInit_perm l).length_eq
  unfold Heap
  rw [hl]
  exact alInitN_heap l.length (l.length / 2) l rfl (by omega) (fun m hm hm2 hs => by omega)
theorem alPushed_heap (l : List S58) (x : S58) (h : Heap l) : Heap (alPushed l x) := by
  unfold alPushed
  refine alUp_heap _ _ _ (by omega) (by simp) ⟨?_, ?_⟩
  · intro m hm hm2 hne
    simp only [List.length_append, List.length_cons, List.length_nil] at hm2
    have e : ∀ i, i < l.length → alG (l ++ [x]) i = alG l i := fun i hi => by
      apply alG_get
      rw [List.getElem?_append_left hi, alG_some hi]
    rw [e _ (by omega), e _ (by omega)]
    exact h m hm (by omega) (Nat.zero_le _)
  · intro m hm hm2 hp hj
    simp only [List.length_append, List.length_cons, List.length_nil] at hm2
    omega
theorem alPopped_heap (a : S58) (t : List S58) (h : Heap (a :: t)) : Heap (alPopped a t) := by
  have hl := alPopped_length a t
  have hs : HeapFrom 0 t.length (alSunk a t) := by
    unfold alSunk
    refine alDown_heap 0 t.length t.length _ 0 (by omega) (by simp) (by simp) ⟨Nat.le_refl _, ?_, fun m hm hm2 hp h0 => by omega⟩
    intro m hm hm2 _ hne
    rw [alG_swap _ _ _ _ _ _ (by simp) (by simp), alG_swap _ _ _ _ _ _ (by simp) (by simp)]
    rw [if_neg (by omega), if_neg (by omega), if_neg (by omega), if_neg (by omega)]
    exact h m hm (by simp; omega) (Nat.zero_le _)
  intro m hm hm2 _
  rw [hl] at hm2
  have e : ∀ i, i < t.length → alG (alSunk a t) i = alG (alPopped a t) i := fun i hi => by
    apply alG_get
    rw [alSunk_eq, List.getElem?_append_left (by omega), alG_some (by omega)]
  have := hs m hm hm2 (Nat.zero_le _)
  rwa [e _ (by omega), e _ (by omega)] at this
theorem heap_min (l : List S58) (h : Heap l) : ∀ (m : Nat), m < l.length → alLe (alG l 0) (alG l m)
  | 0, _ => alLe_refl _
  | m + 1, hm => alLe_trans (heap_min l h (m / 2) (by omega)) (by have := h (m + 1) (by omega) hm (Nat.zero_le _); rwa [Nat.add_sub_cancel] at this)
  termination_by m => m

end Go.Proofs.Ytlcnhmigbdaajaa.H
