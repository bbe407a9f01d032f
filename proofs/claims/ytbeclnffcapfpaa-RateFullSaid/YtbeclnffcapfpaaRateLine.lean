/-
  What rate.Push and rate.Pop compute, in plain terms; the law's bound on a note.
-/
import Derived.Test.YtbeclnffcapfpaaRate
import Derived.Test.YtbeclnffcapfpaaHx23
import Derived.Test.YtbeclnffcapfpaaHx25
import Derived.Test.YtbeclnffcapfpaaHx22
namespace Go.Proofs.Ytbeclnffcapfpaa.Rate
open Go.RowKit Go.Proofs.YtbeclnffcapfpaaW.PrintWords Go.Proofs.Ytbeclnffcapfpaa.H

abbrev Note := S41
theorem time_eq (n : Int) : wharflaw19_time.f n = some (decide (0 ≤ n ∧ n ≤ 4503599627370496)) := by
  unfold wharflaw19_time.f
  by_cases h : n ≥ 0
  · rw [if_pos h]
    congr 1
    rw [Bool.eq_iff_iff, decide_eq_true_iff, decide_eq_true_iff]
    omega
  · rw [if_neg h, decide_eq_false (by omega)]
def push (l : List Note) (n : Note) : List Note × Int :=
  if (n.f0 = 11 ∨ n.f0 = 12) ∧ rateIdx l n.f0 < l.length then (l.set (rateIdx l n.f0) n, 0) else if l.length ≥ 16 then (l, 5) else (l ++ [n], 0)
theorem clone_eq (l : List Note) (h : l.length < 977343669134) : api_Note_35.f l = some l := by
  unfold api_Note_35.f
  rw [if_pos h]
theorem Push_eq (W C A L D M v t : Int) (l : List Note) (n : Note) (hl : l.length ≤ 100) (k : Nat) (hk : 1 ≤ k) :
    rate_Push.f k W C A L D M v t l n.f0 n.f1 n.f2 n.f3 n.f4 n.f5 n.f6 n.f7 n.f8 n.f9 n.f10 = some (W, C, A, L, D, M, v, t, (push l n).1, (push l n).2) := by
  obtain ⟨k, rfl⟩ : ∃ m, k = m + 1 := ⟨k - 1, by omega⟩
  have hadd : (if (l.length : Int) ≥ 16 then some (W, C, A, L, D, M, v, t, l, (5 : Int)) else (some l).bind fun t139 => ((some (([n] : List Note))).bind fun y142 => (if t139.length + y142.length < 977343669134 then (some (W, C, A, L, D, M, v, t, (t139 ++ y142), (0 : Int))) else none)))
      = some (W, C, A, L, D, M, v, t, (if l.length ≥ 16 then (l, (5 : Int)) else (l ++ [n], 0)).1, (if l.length ≥ 16 then (l, (5 : Int)) else (l ++ [n], 0)).2) := by
    by_cases c : l.length ≥ 16
    · rw [if_pos (by omega), if_pos c]
    · rw [if_neg (by omega), if_neg c, Option.bind_some, Option.bind_some, if_pos (by simp; omega)]
  have hno : ¬ (n.f0 = 11 ∨ n.f0 = 12) → rate_Push.j0 (k + 1) false W C A L D M v t l n.f0 n.f1 n.f2 n.f3 n.f4 n.f5 n.f6 n.f7 n.f8 n.f9 n.f10 = some (W, C, A, L, D, M, v, t, (push l n).1, (push l n).2) := by
    intro c
    simp only [rate_Push.j0]
    have p : push l n = if l.length ≥ 16 then (l, 5) else (l ++ [n], 0) := by unfold push; rw [if_neg (fun h => c h.1)]
    rw [p, if_neg Bool.false_ne_true, clone_eq l (by omega)]
    exact hadd
  have hyes : (n.f0 = 11 ∨ n.f0 = 12) → rate_Push.j0 (k + 1) true W C A L D M v t l n.f0 n.f1 n.f2 n.f3 n.f4 n.f5 n.f6 n.f7 n.f8 n.f9 n.f10 = some (W, C, A, L, D, M, v, t, (push l n).1, (push l n).2) := by
    intro c
    simp only [rate_Push.j0]
    rw [if_pos trivial]
    unfold rate_PushIdx.f
    by_cases h : rateIdx l n.f0 < l.length
    · have e : rateIx l n.f0 = (rateIdx l n.f0 : Int) := by unfold rateIx; rw [if_pos h]
      have p : push l n = (l.set (rateIdx l n.f0) n, 0) := by unfold push; rw [if_pos ⟨c, h⟩]
      rw [p, e, Option.bind_some, if_pos (by omega), clone_eq l (by omega), Option.bind_some, if_pos (by omega), if_pos (by omega), Int.toNat_natCast]
    · have e : rateIx l n.f0 = -1 := by unfold rateIx; rw [if_neg h]
      have p : push l n = if l.length ≥ 16 then (l, 5) else (l ++ [n], 0) := by unfold push; rw [if_neg (fun h' => h h'.2)]
      rw [p, e, Option.bind_some, if_neg (by omega), clone_eq l (by omega)]
      exact hadd
  unfold rate_Push.f
  by_cases c : n.f0 = 11
  · rw [if_pos c, show (n.f0 == 11) = true from beq_iff_eq.mpr c]
    exact hyes (Or.inl c)
  · rw [if_neg c]
    by_cases c' : n.f0 = 12
    · rw [show (n.f0 == 12) = true from beq_iff_eq.mpr c']
      exact hyes (Or.inr c')
    · rw [show (n.f0 == 12) = false from beq_eq_false_iff_ne.mpr c']
      exact hno (by omega)
theorem push_len (l : List Note) (n : Note) (h : l.length ≤ 16) : (push l n).1.length ≤ 16 := by
  unfold push
  split
  · rw [List.length_set]; exact h
  · split
    · exact h
    · rw [List.length_append, List.length_singleton]; omega
/-- what may be sent leaves -/
def pop (W L M now : Int) : Int → Int → List Note → Int × Int × List Note × List Note
  | v, t, [] => (v, t, [], [])
  | v, t, x :: l => if need W L v ≤ dist t now then ((pop W L M now (peek W M v t now) (mx t now) l).1, (pop W L M now (peek W M v t now) (mx t now) l).2.1, x :: (pop W L M now (peek W M v t now) (mx t now) l).2.2.1, (pop W L M now (peek W M v t now) (mx t now) l).2.2.2) else (v, t, [], x :: l)
theorem pop_loop (W C A L D M now : Int) (h0 : 0 ≤ now) (h1 : now ≤ 4503599627370496) (l : List Note) (hl : l.length ≤ 100) : ∀ (d i k : Nat) (v t : Int), i + d = l.length → d < k → Rok W C A L D M v t →
    rate_Pop.l0 k now (i : Int) W C A L D M v t l = some (W, C, A, L, D, M, (pop W L M now v t (l.drop i)).1, (pop W L M now v t (l.drop i)).2.1, (pop W L M now v t (l.drop i)).2.2.2, l.take i ++ (pop W L M now v t (l.drop i)).2.2.1) := by
  intro d
  induction d with
  | zero =>
    intro i k v t hi hk hr
    obtain ⟨k, rfl⟩ : ∃ m, k = m + 1 := ⟨k - 1, by omega⟩
    simp only [rate_Pop.l0]
    rw [if_neg (by omega), if_pos (by omega), if_pos (by omega), Int.toNat_natCast, clone_eq _ (by rw [List.length_take]; omega), clone_eq _ (by rw [List.length_drop]; omega), Option.bind_some, Option.bind_some, List.drop_of_length_le (by omega)]
    simp only [pop, List.append_nil]
  | succ d ih =>
    intro i k v t hi hk hr
    obtain ⟨k, rfl⟩ : ∃ m, k = m + 1 := ⟨k - 1, by omega⟩
    have hlt : i < l.length := by omega
    simp only [rate_Pop.l0]
    rw [if_pos (by omega), May_eq hr now h0 (by omega), Option.bind_some]
    by_cases c : need W L v ≤ dist t now
    · rw [decide_eq_true c, if_pos rfl, Send_eq hr now h0 (by omega), Option.bind_some]
      dsimp only
      rw [wid ((i : Int) + 1) (by omega) (by omega), show ((i : Int) + 1) = ((i + 1 : Nat) : Int) by omega, ih (i + 1) k _ _ (by omega) (by omega) (send_ok hr now h0 h1), List.drop_eq_getElem_cons hlt]
      simp only [pop]
      rw [if_pos c, List.take_succ_eq_append_getElem hlt, List.append_assoc]
      rfl
    · rw [decide_eq_false c, if_neg Bool.false_ne_true, if_pos (by omega), if_pos (by omega), Int.toNat_natCast, clone_eq _ (by rw [List.length_take]; omega), clone_eq _ (by rw [List.length_drop]; omega), Option.bind_some, Option.bind_some, List.drop_eq_getElem_cons hlt]
      simp only [pop]
      rw [if_neg c, List.append_nil]
theorem Pop_eq {W C A L D M v t : Int} (hr : Rok W C A L D M v t) (now : Int) (h0 : 0 ≤ now) (h1 : now ≤ 4503599627370496) (l : List Note) (hl : l.length ≤ 100) (k : Nat) (hk : l.length < k) :
    rate_Pop.f k W C A L D M v t l now = some (W, C, A, L, D, M, (pop W L M now v t l).1, (pop W L M now v t l).2.1, (pop W L M now v t l).2.2.2, (pop W L M now v t l).2.2.1) := by
  have := pop_loop W C A L D M now h0 h1 l hl l.length 0 k v t (by omega) hk hr
  exact this
theorem pop_parts (W L M now : Int) : ∀ (l : List Note) (v t : Int), (pop W L M now v t l).2.2.1 ++ (pop W L M now v t l).2.2.2 = l := by
  intro l
  induction l with
  | nil => intro v t; rfl
  | cons x l ih =>
    intro v t
    simp only [pop]
    split
    · simp only [List.cons_append, ih]
    · rfl
theorem pop_ok (W C A L D M now : Int) (h0 : 0 ≤ now) (h1 : now ≤ 4503599627370496) : ∀ (l : List Note) (v t : Int), Rok W C A L D M v t → Rok W C A L D M (pop W L M now v t l).1 (pop W L M now v t l).2.1 ∧ (L ≤ v → L ≤ (pop W L M now v t l).1) := by
  intro l
  induction l with
  | nil => intro v t h; exact ⟨h, fun h => h⟩
  | cons x l ih =>
    intro v t h
    simp only [pop]
    split
    · rename_i c
      have := ih _ _ (send_ok h now h0 h1)
      exact ⟨this.1, fun _ => this.2 ((may_iff h now).mpr c)⟩
    · exact ⟨h, fun h => h⟩
theorem weight_some (most : Int) (x0 : Int) (x1 x2 x3 : ByteArray) (x4 x5 x6 x7 : Int) (x8 : Bool) (x9 : List (S69)) (x10 : List Int) (hl : x9.length ≤ 100) : ∀ (d i k : Nat) (n : Int), i + d = x9.length → d < k → ∃ r, wharfref14_Weight.l0 k most n (i : Int) x0 x1 x2 x3 x4 x5 x6 x7 x8 x9 x10 = some r := by
  intro d
  induction d with
  | zero =>
    intro i k n hi hk
    obtain ⟨k, rfl⟩ : ∃ m, k = m + 1 := ⟨k - 1, by omega⟩
    simp only [wharfref14_Weight.l0]
    rw [if_neg (by omega)]
    exact ⟨_, rfl⟩
  | succ d ih =>
    intro i k n hi hk
    obtain ⟨k, rfl⟩ : ∃ m, k = m + 1 := ⟨k - 1, by omega⟩
    simp only [wharfref14_Weight.l0]
    rw [if_pos (by omega)]
    split
    · rw [if_pos (by omega), wid ((i : Int) + 1) (by omega) (by omega), show ((i : Int) + 1) = ((i + 1 : Nat) : Int) by omega]
      exact ih (i + 1) k _ (by omega) (by omega)
    · exact ⟨_, rfl⟩
theorem note_some (n : Note) (k : Nat) (hk : 102 ≤ k) : ∃ r, wharflaw19_note.f k n.f0 n.f1 n.f2 n.f3 n.f4 n.f5 n.f6 n.f7 n.f8 n.f9 n.f10 = some r := by
  unfold wharflaw19_note.f
  split
  · exact ⟨_, rfl⟩
  · split
    · exact ⟨_, rfl⟩
    · unfold wharfref14_Weight.f
      obtain ⟨r, hr⟩ := weight_some 10000 n.f0 n.f1 n.f2 n.f3 n.f4 n.f5 n.f6 n.f7 n.f8 n.f9 n.f10 (by omega) n.f9.length 0 k (wrap64 ((wrap64 ((wrap64 ((n.f1.size : Int) + (n.f2.size : Int))) + (n.f3.size : Int))) + (n.f10.length : Int))) (by omega) (by omega)
      refine ⟨r, ?_⟩
      have hr' := hr
      rw [show ((0 : Nat) : Int) = 0 from rfl] at hr'
      rw [hr']
      rfl
end Go.Proofs.Ytbeclnffcapfpaa.Rate
