-- written by hp.py for this claim, out of the kit's printer and texts of my own
import Derived.Test.YtlcnhmigbdaajaaHx0
import Derived.Test.YtlcnhmigbdaajaaHx20005
import Derived.Test.YtlcnhmigbdaajaaHx20006
import Derived.Test.YtlcnhmigbdaajaaHx20007
import Derived.Test.YtlcnhmigbdaajaaHx20009
import Derived.Test.YtlcnhmigbdaajaaHx20010
import Derived.Test.YtlcnhmigbdaajaaHx20011
import Derived.Test.YtlcnhmigbdaajaaHx20011
namespace Go.Proofs.Ytlcnhmigbdaajaa.H
open Go.RowKit Go.Proofs.YtlcnhmigbdaajaaW.PrintWords Go.Proofs.YtlcnhmigbdaajaaW.PrintLast Go.Proofs.YtlcnhmigbdaajaaW.PrintMore
attribute [local go_sem] max2_int min2_int max_two min_two max_three min_three max_four min_four   -- for this text's walks alone
set_option linter.unusedVariables false
set_option linter.unusedSimpArgs false

/-- ahead -/
def alLt (x y : S58) : Prop := x.f0 < y.f0 ∨ x.f0 = y.f0 ∧ x.f1 < y.f1
/-- a heap, and the list in order -/
structure TRel (H L : List S58) (last : Int) : Prop where
  perm : H.Perm L
  heap : Heap H
  sorted : L.Pairwise alLt
  nums : ∀ x ∈ L, x.f1 ≤ last
theorem TRel.first {a b : S58} {t u : List S58} {last : Int} (h : TRel (a :: t) (b :: u) last) : a = b := by
  have ha : a ∈ b :: u := h.perm.mem_iff.mp List.mem_cons_self
  have hb : b ∈ a :: t := h.perm.mem_iff.mpr List.mem_cons_self
  rcases List.mem_cons.mp ha with e | ha
  · exact e
  · exfalso
    have h1 : alLt b a := (List.pairwise_cons.mp h.sorted).1 a ha
    obtain ⟨m, hm, e⟩ := List.getElem_of_mem hb
    have h2 := heap_min (a :: t) h.heap m hm
    have e0 : alG (a :: t) 0 = a := rfl
    have em : alG (a :: t) m = b := alG_get (by rw [List.getElem?_eq_getElem hm, e])
    rw [e0, em] at h2
    unfold alLe at h2
    unfold alLt at h1
    omega
theorem TRel.next {H L : List S58} {last : Int} (h : TRel H L last) : alNext H = alNext L := by
  cases H with
  | nil =>
    obtain rfl : L = [] := h.perm.nil_eq.symm
    rfl
  | cons a t =>
    cases L with
    | nil => exact absurd h.perm.symm.nil_eq (by simp)
    | cons b u =>
      obtain rfl := h.first
      rfl
theorem TRel.pop {a : S58} {t u : List S58} {last : Int} (h : TRel (a :: t) (a :: u) last) : TRel (alPopped a t) u last :=
  ⟨(alPopped_perm a t).trans h.perm.cons_inv, alPopped_heap a t h.heap, (List.pairwise_cons.mp h.sorted).2, fun x hx => h.nums x (List.mem_cons_of_mem _ hx)⟩
/-- what is due of the list in order -/
def refDue (now : Int) : List S58 → List ByteArray × List S58
  | [] => ([], [])
  | a :: t => if a.f0 ≤ now then (a.f2 :: (refDue now t).1, (refDue now t).2) else ([], a :: t)
theorem TRel.due (now : Int) (last : Int) : ∀ (k : Nat) (H L : List S58), H.length ≤ k → TRel H L last → (alDue now k H).1 = (refDue now L).1 ∧ TRel (alDue now k H).2 (refDue now L).2 last
  | 0, H, L, hk, h => by
    obtain rfl : H = [] := List.eq_nil_of_length_eq_zero (by omega)
    obtain rfl : L = [] := h.perm.nil_eq.symm
    exact ⟨rfl, h⟩
  | k + 1, [], L, hk, h => by
    obtain rfl : L = [] := h.perm.nil_eq.symm
    exact ⟨rfl, h⟩
  | k + 1, a :: t, [], hk, h => absurd h.perm.symm.nil_eq (by simp)
  | k + 1, a :: t, b :: u, hk, h => by
    obtain rfl := h.first
    rw [alDue, refDue]
    by_cases c : now < a.f0
    · rw [if_pos c, if_neg (by omega)]
      exact ⟨rfl, h⟩
    · rw [if_neg c, if_pos (by omega)]
      obtain ⟨h1, h2⟩ := TRel.due now last k _ _ (by rw [alPopped_length]; simp only [List.length_cons] at hk; omega) h.pop
      exact ⟨by rw [h1], h2⟩
theorem TRel.drop {H L : List S58} {last : Int} (h : TRel H L last) (key : ByteArray) : TRel (alDropped key H) (alKeep key L) last :=
  ⟨(alDropped_perm key H).trans (h.perm.filter _), alInit_heap _, h.sorted.filter _, fun x hx => h.nums x (List.mem_filter.mp hx).1⟩
theorem TRel.has {H L : List S58} {last : Int} (h : TRel H L last) (key : ByteArray) : H.any (fun x => x.f2 == key) = L.any (fun x => x.f2 == key) := by
  rw [Bool.eq_iff_iff, List.any_eq_true, List.any_eq_true]
  exact ⟨fun ⟨x, hx, e⟩ => ⟨x, h.perm.mem_iff.mp hx, e⟩, fun ⟨x, hx, e⟩ => ⟨x, h.perm.mem_iff.mpr hx, e⟩⟩
/-- behind which place a new one comes -/
def refPos (at_ : Int) (L : List S58) : Nat → Nat
  | 0 => 0
  | k + 1 => if at_ < (alG L k).f0 then refPos at_ L k else k + 1
def refPut (L : List S58) (x : S58) : List S58 := (L.take (refPos x.f0 L L.length) ++ [x]) ++ L.drop (refPos x.f0 L L.length)
theorem refPos_ok (at_ : Int) (L : List S58) : ∀ (k : Nat), refPos at_ L k ≤ k ∧ (∀ i, refPos at_ L k ≤ i → i < k → at_ < (alG L i).f0) ∧ (0 < refPos at_ L k → (alG L (refPos at_ L k - 1)).f0 ≤ at_)
  | 0 => ⟨Nat.le_refl _, fun i _ h => absurd h (Nat.not_lt_zero _), fun h => absurd h (Nat.lt_irrefl _)⟩
  | k + 1 => by
    rw [refPos]
    split
    · rename_i c
      obtain ⟨h1, h2, h3⟩ := refPos_ok at_ L k
      refine ⟨by omega, fun i hi hk => ?_, h3⟩
      by_cases e : i = k
      · rw [e]; exact c
      · exact h2 i hi (by omega)
    · rename_i c
      exact ⟨Nat.le_refl _, fun i h1 h2 => by omega, fun _ => by rw [Nat.add_sub_cancel]; omega⟩
theorem TRel.add {H L : List S58} {last : Int} (h : TRel H L last) (at_ : Int) (key : ByteArray) : TRel (alPushed H ⟨at_, last + 1, key⟩) (refPut L ⟨at_, last + 1, key⟩) (last + 1) := by
  obtain ⟨h1, h2, h3⟩ := refPos_ok at_ L L.length
  unfold refPut
  simp only
  generalize refPos at_ L L.length = k at *
  have hmem : ∀ y, y ∈ L.take k → alLt y ⟨at_, last + 1, key⟩ := by
    intro y hy
    obtain ⟨i, hi, rfl⟩ := List.getElem_of_mem hy
    have hik : i < k := by simp at hi; omega
    rw [List.getElem_take]
    have hkl := h3 (by omega)
    have e1 : alG L (k - 1) = L[k - 1]'(by omega) := alG_get (List.getElem?_eq_getElem _)
    rw [e1] at hkl
    have hn := h.nums (L[i]'(by omega)) (List.getElem_mem _)
    have hle : (L[i]'(by omega)).f0 ≤ (L[k - 1]'(by omega)).f0 := by
      by_cases e : i = k - 1
      · subst e; exact Int.le_refl _
      · have := List.pairwise_iff_getElem.mp h.sorted i (k - 1) (by omega) (by omega) (by omega)
        unfold alLt at this
        omega
    unfold alLt
    simp only
    omega
  have hmem2 : ∀ y, y ∈ L.drop k → alLt ⟨at_, last + 1, key⟩ y := by
    intro y hy
    obtain ⟨i, hi, rfl⟩ := List.getElem_of_mem hy
    have hik : k + i < L.length := by simp at hi; omega
    rw [List.getElem_drop]
    have := h2 (k + i) (by omega) hik
    have e1 : alG L (k + i) = L[k + i] := alG_get (List.getElem?_eq_getElem _)
    rw [e1] at this
    exact .inl this
  have hs := h.sorted
  rw [← List.take_append_drop k L] at hs
  obtain ⟨s1, s2, s3⟩ := List.pairwise_append.mp hs
  refine ⟨?_, alPushed_heap _ _ h.heap, ?_, ?_⟩
  · refine (alPushed_perm _ _).trans ?_
    refine (h.perm.append_right _).trans ?_
    conv => lhs; rw [← List.take_append_drop k L]
    rw [List.append_assoc, List.append_assoc]
    exact List.Perm.append_left _ List.perm_append_comm
  · rw [List.append_assoc]
    refine List.pairwise_append.mpr ⟨s1, ?_, ?_⟩
    · exact List.pairwise_cons.mpr ⟨hmem2, s2⟩
    · intro a ha b hb
      rcases List.mem_cons.mp hb with rfl | hb
      · exact hmem a ha
      · exact s3 a ha b hb
  · intro y hy
    rcases List.mem_append.mp hy with hy | hy
    · rcases List.mem_append.mp hy with hy | hy
      · have := h.nums y (List.mem_of_mem_take hy); omega
      · rw [List.mem_singleton.mp hy]; exact Int.le_refl _
    · have := h.nums y (List.mem_of_mem_drop hy); omega
theorem TRel.length {H L : List S58} {last : Int} (h : TRel H L last) : H.length = L.length := h.perm.length_eq
theorem TRel.empty : TRel [] [] 0 := ⟨.refl _, fun m _ h => absurd h (Nat.not_lt_zero _), .nil, fun x hx => by simp at hx⟩

end Go.Proofs.Ytlcnhmigbdaajaa.H
