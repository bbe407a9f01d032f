/-
  What tlv.First computes, in plain terms; the values of bytes, one by one.
-/
import Derived.Test.YtndcpbiofhclhaaTlv
import Derived.Test.YtndcpbiofhclhaaHx32
namespace Go.Proofs.Ytndcpbiofhclhaa.Tlv
open Go.RowKit Go.Proofs.YtndcpbiofhclhaaW.PrintWords Go.Proofs.Ytndcpbiofhclhaa.H Go.Proofs.Ytndcpbiofhclhaa.Bytes

def first (s : ByteArray) (w : Int) : ByteArray × ByteArray × Int :=
  if w = 1 ∨ w = 2 ∨ w = 4 then
    (if (s.size : Int) < w then (⟨#[]⟩, ⟨#[]⟩, 110)
     else if num (L (s.extract 0 w.toNat)) 0 > (s.size : Int) - w then (⟨#[]⟩, ⟨#[]⟩, 110)
     else (s.extract w.toNat (w.toNat + (num (L (s.extract 0 w.toNat)) 0).toNat), s.extract (w.toNat + (num (L (s.extract 0 w.toNat)) 0).toNat) s.size, 0))
  else (⟨#[]⟩, ⟨#[]⟩, 2)
theorem First_eq (s : ByteArray) (w : Int) (k : Nat) (hk : 9 ≤ k) : tlv_First.f k s w = some (first s w) := by
  obtain ⟨k, rfl⟩ : ∃ m, k = m + 1 := ⟨k - 1, by omega⟩
  have hf : ∀ b : Bool, tlv_First.j0 (k + 1) s w b = some (if b = true then (⟨#[]⟩, ⟨#[]⟩, 2) else if w = 1 ∨ w = 2 ∨ w = 4 then first s w else (⟨#[]⟩, ⟨#[]⟩, 2)) ∨ (b = false ∧ ¬ (w = 1 ∨ w = 2 ∨ w = 4)) := by
    intro b
    cases b with
    | true => left; simp only [tlv_First.j0]; rw [if_pos trivial, if_pos trivial]
    | false =>
      by_cases hw : w = 1 ∨ w = 2 ∨ w = 4
      · left
        rw [if_neg Bool.false_ne_true, if_pos hw]
        simp only [tlv_First.j0]
        rw [if_neg Bool.false_ne_true]
        unfold first
        rw [if_pos hw]
        by_cases h0 : (s.size : Int) < w
        · rw [if_pos h0, if_pos h0]
        · rw [if_neg h0, if_neg h0, if_pos (by omega), if_pos (by omega), Num_eq _ k (by omega), Option.bind_some]
          have hz : (s.extract 0 w.toNat).size = w.toNat := by rw [ByteArray.size_extract]; omega
          have e0 : numAns (s.extract 0 w.toNat) = (num (L (s.extract 0 w.toNat)) 0, 0) := by
            unfold numAns
            rw [if_pos (by omega)]
          rw [e0]
          dsimp only
          have hn := num_lo (L (s.extract 0 w.toNat)) 0 (by omega)
          generalize num (L (s.extract 0 w.toNat)) 0 = n at hn ⊢
          by_cases h1 : n > (s.size : Int) - w
          · rw [if_pos (by omega), if_pos h1]
          · rw [if_neg (by omega), if_neg h1, if_pos hn, if_pos (by omega)]
            have e1 : (s.extract w.toNat s.size).extract 0 n.toNat = s.extract w.toNat (w.toNat + n.toNat) := by
              apply L_inj
              rw [L_head, L_tail, L_extract, Nat.add_sub_cancel_left]
            have e2 : (s.extract w.toNat s.size).extract n.toNat (s.extract w.toNat s.size).size = s.extract (w.toNat + n.toNat) s.size := by
              apply L_inj
              rw [L_tail, L_tail, L_tail, List.drop_drop]
            rw [e1, e2]
      · exact Or.inr ⟨rfl, hw⟩
  unfold tlv_First.f
  by_cases hw : w = 1 ∨ w = 2 ∨ w = 4
  · have h2 := hf false
    rcases h2 with h2 | ⟨_, h2⟩
    · rw [if_neg Bool.false_ne_true, if_pos hw] at h2
      by_cases h1 : w = 1
      · rw [if_pos h1, h2]
      · rw [if_neg h1]
        by_cases h3 : w = 2
        · rw [if_pos h3, h2]
        · rw [if_neg h3, show (w != 4) = false from by rw [bne_eq_false_iff_eq]; omega, h2]
    · exact absurd hw h2
  · have h2 := hf true
    rcases h2 with h2 | ⟨h2, _⟩
    · rw [if_pos rfl] at h2
      rw [if_neg (by omega), if_neg (by omega), show (w != 4) = true from by rw [bne_iff_ne]; omega, h2]
      unfold first
      rw [if_neg hw]
    · cases h2
theorem First_less {s : ByteArray} (w : Int) (h : (first s w).2.2 = 0) : (first s w).2.1.size < s.size := by
  unfold first at h ⊢
  by_cases hw : w = 1 ∨ w = 2 ∨ w = 4
  · rw [if_pos hw] at h ⊢
    by_cases h0 : (s.size : Int) < w
    · rw [if_pos h0] at h; cases h
    · rw [if_neg h0] at h ⊢
      by_cases h1 : num (L (s.extract 0 w.toNat)) 0 > (s.size : Int) - w
      · rw [if_pos h1] at h; cases h
      · rw [if_neg h1]
        show (s.extract _ s.size).size < s.size
        rw [ByteArray.size_extract]
        omega
  · rw [if_neg hw] at h; cases h

/-- a value as the iterator gives it: its type, its bytes, what is wrong -/
abbrev TItem := Int × ByteArray × Int
def tstep (s : ByteArray) : TItem × ByteArray :=
  ((num (L (s.extract 0 2)) 0, (first (s.extract 2 s.size) 2).1, (first (s.extract 2 s.size) 2).2.2), (first (s.extract 2 s.size) 2).2.1)
def itemsN : Nat → ByteArray → List TItem
  | 0, _ => []
  | n + 1, s => if s.size = 0 then [] else if s.size < 2 then [(0, ⟨#[]⟩, 110)] else (tstep s).1 :: (if (tstep s).1.2.2 = 0 then itemsN n (tstep s).2 else [])
theorem tstep_less {s : ByteArray} (h : (tstep s).1.2.2 = 0) : (tstep s).2.size < s.size := by
  have h1 := First_less 2 h
  rw [ByteArray.size_extract] at h1
  show (first (s.extract 2 s.size) 2).2.1.size < s.size
  omega
theorem itemsN_more : ∀ (n m : Nat) (s : ByteArray), s.size < n → s.size < m → itemsN n s = itemsN m s := by
  intro n
  induction n with
  | zero => intro m s h; omega
  | succ n ih =>
    intro m s h h'
    obtain ⟨m, rfl⟩ : ∃ q, m = q + 1 := ⟨m - 1, by omega⟩
    simp only [itemsN]
    by_cases h0 : s.size = 0
    · rw [if_pos h0, if_pos h0]
    · rw [if_neg h0, if_neg h0]
      by_cases h1 : s.size < 2
      · rw [if_pos h1, if_pos h1]
      · rw [if_neg h1, if_neg h1]
        by_cases h2 : (tstep s).1.2.2 = 0
        · have := tstep_less h2
          rw [if_pos h2, if_pos h2, ih m _ (by omega) (by omega)]
        · rw [if_neg h2, if_neg h2]
def items (s : ByteArray) : List TItem := itemsN (s.size + 1) s
theorem items_nil {s : ByteArray} (h : s.size = 0) : items s = [] := by unfold items; simp only [itemsN]; rw [if_pos h]
theorem items_short {s : ByteArray} (h : ¬ s.size = 0) (h1 : s.size < 2) : items s = [(0, ⟨#[]⟩, 110)] := by unfold items; simp only [itemsN]; rw [if_neg h, if_pos h1]
theorem items_bad {s : ByteArray} (h1 : ¬ s.size < 2) (h2 : ¬ (tstep s).1.2.2 = 0) : items s = [(tstep s).1] := by unfold items; simp only [itemsN]; rw [if_neg (by omega), if_neg h1, if_neg h2]
theorem items_ok {s : ByteArray} (h1 : ¬ s.size < 2) (h2 : (tstep s).1.2.2 = 0) : items s = (tstep s).1 :: items (tstep s).2 := by
  have := tstep_less h2
  unfold items
  rw [itemsN]
  rw [if_neg (by omega), if_neg h1, if_pos h2, itemsN_more s.size ((tstep s).2.size + 1) _ (by omega) (by omega)]
/-- what tlv.Parse makes of them -/
def gather : List TItem → List S75 → List S75 × Int
  | [], acc => (acc, 0)
  | (t, v, e) :: l, acc => if e = 0 then (if acc.length = 64 then ([], 6) else gather l (acc ++ [⟨t, v⟩])) else ([], e)
def parseTlv (s : ByteArray) : List S75 × Int := gather (items s) []
theorem gather_ok : ∀ (q rest : List TItem) (acc : List S75), (∀ x ∈ q, x.2.2 = 0) → acc.length + q.length ≤ 64 → gather (q ++ rest) acc = gather rest (acc ++ q.map fun x => ⟨x.1, x.2.1⟩) := by
  intro q
  induction q with
  | nil => intro rest acc _ _; simp
  | cons x q ih =>
    intro rest acc h hl
    obtain ⟨t, v, e⟩ := x
    have he : e = 0 := h (t, v, e) (List.mem_cons_self ..)
    rw [List.length_cons] at hl
    simp only [List.cons_append, gather, List.map_cons]
    rw [if_pos he, if_neg (by omega), ih rest _ (fun x hx => h x (List.mem_cons_of_mem _ hx)) (by rw [List.length_append, List.length_singleton]; omega), List.append_assoc]
    rfl
end Go.Proofs.Ytndcpbiofhclhaa.Tlv
