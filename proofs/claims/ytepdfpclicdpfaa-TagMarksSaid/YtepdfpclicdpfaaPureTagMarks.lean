import Derived.Test.YtepdfpclicdpfaaHx4
import Derived.Test.YtepdfpclicdpfaaHx20005
import Derived.Test.YtepdfpclicdpfaaGood
namespace Go.Proofs.Ytepdfpclicdpfaa.Pure
open Go.RowKit Go.Proofs.Ytepdfpclicdpfaa.H Go.Proofs.YtepdfpclicdpfaaW.PrintWords Go.Proofs.YtepdfpclicdpfaaW.PrintLast Go.Proofs.YtepdfpclicdpfaaW.PrintMore

def badN (n : Int) : Bool := n == 60 || n == 62 || n == 39 || n == 34 || n == 9 || n == 10 || n == 13
def mkN (n : Int) : Bool := n == 38 || n == 60 || n == 62 || n == 39 || n == 34 || n == 9 || n == 10 || n == 13
theorem byte_all (P : UInt8 → Prop) (h : ∀ n : Fin 256, P (UInt8.ofNat n.val)) (c : UInt8) : P c := by
  have := h ⟨c.toNat, c.toNat_lt⟩
  simpa using this
theorem quoteC_ok (c : UInt8) : (quoteC c).all (fun d => !(badN (d.toNat : Int))) = true := by
  refine byte_all (fun c => (quoteC c).all (fun d => !(badN (d.toNat : Int))) = true) ?_ c
  decide +kernel
theorem markB_iff (c : UInt8) : (markB c).isEmpty = !(mkN (c.toNat : Int)) := by
  refine byte_all (fun c => (markB c).isEmpty = !(mkN (c.toNat : Int))) ?_ c
  decide +kernel
theorem quoteC_long (c : UInt8) : mkN (c.toNat : Int) = true → 2 ≤ (quoteC c).length := by
  refine byte_all (fun c => mkN (c.toNat : Int) = true → 2 ≤ (quoteC c).length) ?_ c
  decide +kernel
theorem quoteC_plain (c : UInt8) (h : mkN (c.toNat : Int) = false) : quoteC c = [c] := by
  have := markB_iff c
  rw [h] at this
  unfold quoteC
  rw [if_pos (by simpa using this)]
theorem quoteL_ok (l : List UInt8) : ∀ d ∈ quoteL l, badN (d.toNat : Int) = false := by
  intro d hd
  unfold quoteL at hd
  obtain ⟨c, _, hc⟩ := List.mem_flatMap.1 hd
  have := List.all_eq_true.1 (quoteC_ok c) d hc
  simpa using this
theorem quoteL_longer : ∀ (l : List UInt8), l.any (fun c => mkN (c.toNat : Int)) = true → l.length < (quoteL l).length
  | [], h => by simp at h
  | c :: l, h => by
    have h2 := quoteL_ge l
    have h3 := (quoteC_length c).2
    simp only [quoteL, List.flatMap_cons, List.length_append, List.length_cons] at h2 ⊢
    by_cases hc : mkN (c.toNat : Int) = true
    · have := quoteC_long c hc
      omega
    · have h4 : l.any (fun c => mkN (c.toNat : Int)) = true := by simpa [hc] using h
      have := quoteL_longer l h4
      simp only [quoteL] at this
      omega
theorem quoteL_plain : ∀ (l : List UInt8), l.any (fun c => mkN (c.toNat : Int)) = false → quoteL l = l
  | [], _ => rfl
  | c :: l, h => by
    simp only [List.any_cons, Bool.or_eq_false_iff] at h
    have := quoteL_plain l h.2
    simp only [quoteL, List.flatMap_cons] at this ⊢
    rw [quoteC_plain c h.1, this]
    rfl
theorem l0_step {α : Type} (F : Bool → α) (x : Bool) (n : Int) : (if x = true then F true else (if n = 38 then F true else (if n = 60 then F true else (if n = 62 then F true else (if n = 39 then F true else (if n = 34 then F true else (if n = 9 then F true else (if n = 10 then F true else F (n == 13))))))))) = F (x || mkN n) := by
  unfold mkN
  cases x
  · by_cases h1 : n = 38
    · simp [h1]
    by_cases h2 : n = 60
    · simp [h2]
    by_cases h3 : n = 62
    · simp [h3]
    by_cases h4 : n = 39
    · simp [h4]
    by_cases h5 : n = 34
    · simp [h5]
    by_cases h6 : n = 9
    · simp [h6]
    by_cases h7 : n = 10
    · simp [h7]
    have g : ∀ a : Int, ¬ n = a → (n == a) = false := fun a h => by simpa using h
    rw [g _ h1, g _ h2, g _ h3, g _ h4, g _ h5, g _ h6, g _ h7]
    simp [h1, h2, h3, h4, h5, h6, h7]
  · simp
theorem l1_step {α : Type} (A B : α) (n : Int) (h : badN n = false) : (if n = 60 then A else (if n = 62 then A else (if n = 39 then A else (if n = 34 then A else (if n = 9 then A else (if n = 10 then A else (if n = 13 then A else B))))))) = B := by
  unfold badN at h
  simp only [Bool.or_eq_false_iff, beq_eq_false_iff_ne, ne_eq] at h
  obtain ⟨⟨⟨⟨⟨⟨h1, h2⟩, h3⟩, h4⟩, h5⟩, h6⟩, h7⟩ := h
  rw [if_neg h1, if_neg h2, if_neg h3, if_neg h4, if_neg h5, if_neg h6, if_neg h7]
theorem l0_run (s t q : ByteArray) (hs : s.size ≤ 20000) : ∀ (d j : Nat) (m : Bool) (k : Nat), j + d = s.size → wharflaw05_TagMarks.l0 (k + d + 1) s t q m (j : Int) = wharflaw05_TagMarks.l1 k s t q (m || (s.data.toList.drop j).any (fun c => mkN (c.toNat : Int))) 0 := by
  intro d
  have hsl := size_data s
  induction d with
  | zero =>
    intro j m k hj
    rw [show k + 0 + 1 = k + 1 from rfl]
    simp only [wharflaw05_TagMarks.l0]
    rw [if_neg (by omega), List.drop_eq_nil_of_le (by omega)]
    simp
  | succ d ih =>
    intro j m k hj
    have hjl : j < s.data.toList.length := by omega
    rw [show k + (d + 1) + 1 = (k + d + 1) + 1 by omega]
    rw [wharflaw05_TagMarks.l0]
    rw [if_pos (by omega), if_pos (by omega), l0_step (fun b => wharflaw05_TagMarks.l0 (k + d + 1) s t q b (wrap64 ((j : Int) + 1))), bt_get s j hjl]
    have e : wrap64 ((j : Int) + 1) = ((j + 1 : Nat) : Int) := by simp only [wrap64]; omega
    rw [e, ih (j + 1) _ k (by omega), List.drop_eq_getElem_cons hjl]
    simp only [List.any_cons, Bool.or_assoc]
theorem l1_run (s t q : ByteArray) (hq : q.size ≤ 200000) (hok : ∀ d ∈ q.data.toList, badN (d.toNat : Int) = false) : ∀ (d j : Nat) (m : Bool) (k : Nat), j + d = q.size → wharflaw05_TagMarks.l1 (k + d + 1) s t q m (j : Int) = wharflaw05_TagMarks.l1 (k + 1) s t q m (q.size : Int) := by
  intro d
  have hql := size_data q
  induction d with
  | zero =>
    intro j m k hj
    rw [show j = q.size by omega]
  | succ d ih =>
    intro j m k hj
    have hjl : j < q.data.toList.length := by omega
    rw [show k + (d + 1) + 1 = (k + d + 1) + 1 by omega]
    rw [← ih (j + 1) m k (by omega)]
    rw [wharflaw05_TagMarks.l1]
    have hb := hok _ (List.getElem_mem hjl)
    rw [if_pos (by omega), if_pos (by omega), bt_get q j hjl, l1_step _ _ _ hb]
    have e : wrap64 ((j : Int) + 1) = ((j + 1 : Nat) : Int) := by simp only [wrap64]; omega
    rw [e]
theorem quoteS_append (s t : ByteArray) : quoteS (s ++ t) = quoteS s ++ quoteS t := by
  apply ByteArray.ext
  apply Array.toList_inj.mp
  rw [data_append]
  simp only [quoteS, data_append, quoteL, List.flatMap_append]
theorem TagMarks : ∀ (a0 : ByteArray) (a1 : ByteArray), a0.size ≤ 140737488351232 → a1.size ≤ 140737488351232 → ∃ k, wharflaw05_TagMarks.f k a0 a1 = some true := by
  intro s t h0 h1
  have e : wrap64 ((s.size : Int) + (t.size : Int)) = (s.size : Int) + (t.size : Int) := by simp only [wrap64]; omega
  by_cases hb : s.size + t.size > 20000
  · refine ⟨0, ?_⟩
    unfold wharflaw05_TagMarks.f
    rw [e, if_pos (by omega)]
    rfl
  · have hq := quoteL_length s.data.toList
    have hsl := size_data s
    have hqs : (quoteS s).size = (quoteL s.data.toList).length := by simp [quoteS, ByteArray.size]
    refine ⟨0 + (quoteS s).size + 1 + s.size + 1, ?_⟩
    have hts := quoteS_size t
    unfold wharflaw05_TagMarks.f
    rw [e, if_neg (by omega)]
    have f0 : tag_Quote.f s = some (quoteS s) := by unfold tag_Quote.f; rw [if_pos (by omega)]
    have f1 : tag_Quote.f t = some (quoteS t) := by unfold tag_Quote.f; rw [if_pos (by omega)]
    have f2 : tag_Quote.f (s ++ t) = some (quoteS s ++ quoteS t) := by
      unfold tag_Quote.f
      rw [if_pos (by rw [ByteArray.size_append]; omega), quoteS_append]
    rw [f0, Option.bind_some]
    have g0 := l0_run s t (quoteS s) (by omega) s.size 0 false (0 + (quoteS s).size + 1) (by omega)
    rw [Int.natCast_zero] at g0
    rw [g0]
    have g1 := l1_run s t (quoteS s) (by omega) (by simpa [quoteS] using quoteL_ok s.data.toList) (quoteS s).size 0 (false || (s.data.toList.drop 0).any (fun c => mkN (c.toNat : Int))) 0 (by omega)
    rw [Int.natCast_zero] at g1
    rw [g1]
    rw [wharflaw05_TagMarks.l1]
    rw [if_neg (by omega)]
    have hcmp : ((quoteS s).toList == s.toList) = !(false || (s.data.toList.drop 0).any (fun c => mkN (c.toNat : Int))) := by
      rw [ByteArray.toList_eq, ByteArray.toList_eq, Bool.false_or, List.drop_zero]
      show (quoteL s.data.toList == s.data.toList) = _
      cases hm : s.data.toList.any (fun c => mkN (c.toNat : Int)) with
      | true =>
        have := quoteL_longer _ hm
        have hne : ¬ quoteL s.data.toList = s.data.toList := fun h => by rw [h] at this; omega
        simpa using hne
      | false =>
        rw [quoteL_plain _ hm]
        simp
    rw [if_pos (by rw [hcmp]; simp), if_pos (by omega), f2, Option.bind_some, f1, Option.bind_some, if_pos (by omega), if_pos rfl]
    rfl
end Go.Proofs.Ytepdfpclicdpfaa.Pure
