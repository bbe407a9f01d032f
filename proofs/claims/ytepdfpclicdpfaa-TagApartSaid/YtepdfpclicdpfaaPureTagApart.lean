import Derived.Test.YtepdfpclicdpfaaHx3
import Derived.Test.YtepdfpclicdpfaaTagBack
import Derived.Test.YtepdfpclicdpfaaGood
namespace Go.Proofs.Ytepdfpclicdpfaa.Pure
open Go.RowKit Go.Proofs.Ytepdfpclicdpfaa.H Go.Proofs.YtepdfpclicdpfaaW.PrintWords Go.Proofs.YtepdfpclicdpfaaW.PrintLast Go.Proofs.YtepdfpclicdpfaaW.PrintMore

theorem mono_le {α : Type} {f : Nat → Option α} (h : ∀ k, LeO (f k) (f (k + 1))) {r : α} : ∀ (d k : Nat), f k = some r → f (k + d) = some r
  | 0, _, e => e
  | d + 1, k, e => h (k + d) r (mono_le h d k e)
theorem mono_to {α : Type} {f : Nat → Option α} (h : ∀ k, LeO (f k) (f (k + 1))) {r : α} {k k' : Nat} (hk : k ≤ k') (e : f k = some r) : f k' = some r := by
  have := mono_le h (k' - k) k e
  rwa [show k + (k' - k) = k' by omega] at this
theorem wrapId (a : Int) (h0 : -9000000000000000000 ≤ a) (h1 : a ≤ 9000000000000000000) : wrap64 a = a := by unfold wrap64; omega
theorem sum4 (a b c d : Nat) (ha : a ≤ 140737488351232) (hb : b ≤ 140737488351232) (hc : c ≤ 140737488351232) (hd : d ≤ 140737488351232) : wrap64 ((wrap64 ((wrap64 ((wrap64 (1 + (a : Int))) + (b : Int))) + (c : Int))) + (d : Int)) = 1 + (a : Int) + (b : Int) + (c : Int) + (d : Int) := by
  rw [wrapId (1 + (a : Int)) (by omega) (by omega)]
  rw [wrapId (1 + (a : Int) + (b : Int)) (by omega) (by omega)]
  rw [wrapId (1 + (a : Int) + (b : Int) + (c : Int)) (by omega) (by omega)]
  rw [wrapId (1 + (a : Int) + (b : Int) + (c : Int) + (d : Int)) (by omega) (by omega)]
def sumN {α : Type} (f : α → Nat) (l : List α) : Nat := (l.map f).sum
theorem sumN_cons {α : Type} (f : α → Nat) (a : α) (l : List α) : sumN f (a :: l) = f a + sumN f l := by simp [sumN]
/-- how much an element is, to some depth -/
def tw : Nat → S25 → Nat
  | 0, _ => 1
  | k + 1, e => 1 + e.f0.size + e.f1.size + e.f3.size + e.f2.length + sumN (fun a => a.f0.size + a.f1.size) e.f2 + sumN (tw k) e.f4
abbrev W5 (k : Nat) (x : S25) (depth : Int) : Option Int := wharfref05_Weight.f k x.f0 x.f1 x.f2 x.f3 x.f4 20000 depth
theorem W5_mono (x : S25) (depth : Int) (k : Nat) : LeO (W5 k x depth) (W5 (k + 1) x depth) := wharfref05_Weight.mono _ _ _ _ _ _ _ k
theorem l0_run (x : S25) (depth : Int) (hg : ∀ z ∈ x.f2, z.f0.size ≤ 140737488351232 ∧ z.f1.size ≤ 140737488351232) (hl : x.f2.length ≤ 140737488351232) : ∀ (d j : Nat) (acc : Int), j + d = x.f2.length → 0 ≤ acc → acc ≤ 1000000000000000 →
    ∃ acc' : Int, acc ≤ acc' ∧ acc' ≤ 2000000000000000 ∧ (acc' ≤ 20000 → acc + (sumN (fun a : S51 => a.f0.size + a.f1.size) (x.f2.drop j) : Nat) ≤ acc') ∧ ∀ (K : Nat) (r : Int), wharfref05_Weight.j1 K 20000 depth acc' x.f0 x.f1 x.f2 x.f3 x.f4 = some r → wharfref05_Weight.l0 (K + d + 1) 20000 depth acc (j : Int) x.f0 x.f1 x.f2 x.f3 x.f4 = some r := by
  intro d
  induction d with
  | zero =>
    intro j acc hj h0 h1
    refine ⟨acc, Int.le_refl _, by omega, fun _ => ?_, fun K r hr => ?_⟩
    · rw [List.drop_eq_nil_of_le (by omega)]
      simp [sumN]
    · rw [show K + 0 + 1 = K + 1 from rfl, wharfref05_Weight.l0, if_neg (by omega)]
      exact hr
  | succ d ih =>
    intro j acc hj h0 h1
    have hjl : j < x.f2.length := by omega
    by_cases hm : acc ≤ 20000
    · have hz := hg _ (List.getElem_mem hjl)
      have hrd : rd_T51 x.f2 (j : Int) = x.f2[j] := by simp [rd_T51, hjl]
      obtain ⟨acc', a1, a2, a3, a4⟩ := ih (j + 1) (acc + (x.f2[j].f0.size : Int) + (x.f2[j].f1.size : Int)) (by omega) (by omega) (by omega)
      refine ⟨acc', by omega, a2, fun h => ?_, fun K r hr => ?_⟩
      · have := a3 h
        rw [List.drop_eq_getElem_cons hjl, sumN_cons]
        omega
      · rw [show K + (d + 1) + 1 = (K + d + 1) + 1 by omega, wharfref05_Weight.l0, if_pos (by omega), if_pos hm, if_pos (by omega), hrd]
        have e0 : wrap64 (acc + (x.f2[j].f0.size : Int)) = acc + (x.f2[j].f0.size : Int) := wrapId _ (by omega) (by omega)
        have e1 : wrap64 (acc + (x.f2[j].f0.size : Int) + (x.f2[j].f1.size : Int)) = acc + (x.f2[j].f0.size : Int) + (x.f2[j].f1.size : Int) := wrapId _ (by omega) (by omega)
        have e2 : wrap64 ((j : Int) + 1) = ((j + 1 : Nat) : Int) := wrapId _ (by omega) (by omega)
        rw [e0, e1, e2]
        exact a4 K r hr
    · refine ⟨acc, Int.le_refl _, by omega, fun h => absurd h hm, fun K r hr => ?_⟩
      rw [show K + (d + 1) + 1 = (K + d + 1) + 1 by omega, wharfref05_Weight.l0, if_pos (by omega), if_neg hm]
      have hmono := fun k => (wharfref05_Weight.mono_l k).2.1 20000 depth acc x.f0 x.f1 x.f2 x.f3 x.f4
      exact mono_to (f := fun k => wharfref05_Weight.j1 k 20000 depth acc x.f0 x.f1 x.f2 x.f3 x.f4) hmono (by omega) hr
theorem l1_run (x : S25) (depth : Int) (hd0 : 0 ≤ depth) (hd1 : depth ≤ 40) (B : Int) (hB0 : 0 ≤ B) (hB : B ≤ 4000000000000000) (hl : x.f4.length ≤ 140737488351232) (hkid : ∀ z ∈ x.f4, ∃ (k : Nat) (n : Int), W5 k z (depth + 1) = some n ∧ 1 ≤ n ∧ n ≤ B ∧ (n ≤ 20000 → ∀ m, (tw m z : Int) ≤ n)) : ∀ (d j : Nat) (acc : Int), j + d = x.f4.length → 0 ≤ acc → acc ≤ 2000000000000000 + B + 20000 →
    ∃ (K : Nat) (n : Int), wharfref05_Weight.l1 K 20000 depth acc (j : Int) x.f0 x.f1 x.f2 x.f3 x.f4 = some n ∧ acc ≤ n ∧ (n ≤ acc ∨ n ≤ B + 20000) ∧ (n ≤ 20000 → ∀ m, acc + (sumN (tw m) (x.f4.drop j) : Nat) ≤ n) := by
  intro d
  induction d with
  | zero =>
    intro j acc hj h0 h1
    refine ⟨1, acc, ?_, Int.le_refl _, Or.inl (Int.le_refl _), fun _ m => ?_⟩
    · rw [wharfref05_Weight.l1, if_neg (by omega)]
    · rw [List.drop_eq_nil_of_le (by omega)]
      simp [sumN]
  | succ d ih =>
    intro j acc hj h0 h1
    have hjl : j < x.f4.length := by omega
    by_cases hm : acc ≤ 20000
    · obtain ⟨k, n, hk, n0, n1, n2⟩ := hkid _ (List.getElem_mem hjl)
      have hrd : rd_T25 x.f4 (j : Int) = x.f4[j] := by simp [rd_T25, hjl]
      obtain ⟨K, N, hK, N0, N1, N2⟩ := ih (j + 1) (acc + n) (by omega) (by omega) (by omega)
      refine ⟨max k K + 1, N, ?_, by omega, by omega, fun h m => ?_⟩
      · rw [wharfref05_Weight.l1, if_pos (by omega), if_pos hm, if_pos (by omega), hrd]
        have e0 : wrap64 (depth + 1) = depth + 1 := wrapId _ (by omega) (by omega)
        have e1 : wrap64 (acc + n) = acc + n := wrapId _ (by omega) (by omega)
        have e2 : wrap64 ((j : Int) + 1) = ((j + 1 : Nat) : Int) := wrapId _ (by omega) (by omega)
        have hk2 : W5 (max k K) x.f4[j] (depth + 1) = some n := mono_to (f := fun k => W5 k x.f4[j] (depth + 1)) (W5_mono _ _) (Nat.le_max_left _ _) hk
        rw [e0, e2]
        rw [show wharfref05_Weight.f (max k K) x.f4[j].f0 x.f4[j].f1 x.f4[j].f2 x.f4[j].f3 x.f4[j].f4 20000 (depth + 1) = some n from hk2, Option.bind_some, e1]
        exact mono_to (f := fun k => wharfref05_Weight.l1 k 20000 depth (acc + n) ((j + 1 : Nat) : Int) x.f0 x.f1 x.f2 x.f3 x.f4) (fun k => (wharfref05_Weight.mono_l k).2.2.1 _ _ _ _ _ _ _ _ _) (Nat.le_max_right _ _) hK
      · have h1 := N2 h m
        have h2 := n2 (by omega) m
        rw [List.drop_eq_getElem_cons hjl, sumN_cons]
        omega
    · refine ⟨1, acc, ?_, Int.le_refl _, Or.inl (Int.le_refl _), fun h => absurd h hm⟩
      rw [wharfref05_Weight.l1, if_pos (by omega), if_neg hm]
theorem goodN_of {x : S25} (h : good25 x) : (x.f0.size ≤ 140737488351232 ∧ x.f1.size ≤ 140737488351232 ∧ x.f3.size ≤ 140737488351232) ∧ (x.f2.length ≤ 140737488351232 ∧ ∀ z ∈ x.f2, z.f0.size ≤ 140737488351232 ∧ z.f1.size ≤ 140737488351232) ∧ (x.f4.length ≤ 140737488351232 ∧ ∀ z ∈ x.f4, good25 z) := by
  obtain ⟨h0, h1, ⟨h2a, h2b, h2c⟩, h3, ⟨h4a, h4b, _⟩⟩ := h 1
  refine ⟨⟨h0, h1, h3⟩, ⟨by omega, h2c⟩, by omega, fun z hz k => ?_⟩
  exact (h (k + 1)).2.2.2.2.2.2 z hz
theorem weight_run : ∀ (D : Nat) (x : S25) (depth : Int), good25 x → 0 ≤ depth → depth + D = 41 → ∃ (k : Nat) (n : Int), W5 k x depth = some n ∧ 1 ≤ n ∧ n ≤ 2000000000000000 + D * 20000 ∧ (n ≤ 20000 → ∀ m, (tw m x : Int) ≤ n)
  | 0, x, depth, hg, h0, hd => by
    refine ⟨1, 20001, ?_, by omega, by omega, fun h => by omega⟩
    show wharfref05_Weight.f 1 x.f0 x.f1 x.f2 x.f3 x.f4 20000 depth = some 20001
    rw [wharfref05_Weight.f, if_pos (by omega), wrapId _ (by omega) (by omega)]
    rfl
  | D + 1, x, depth, hg, h0, hd => by
    obtain ⟨⟨s0, s1, s3⟩, ⟨l2, g2⟩, l4, g4⟩ := goodN_of hg
    have hkid : ∀ z ∈ x.f4, ∃ (k : Nat) (n : Int), W5 k z (depth + 1) = some n ∧ 1 ≤ n ∧ n ≤ 2000000000000000 + (D : Int) * 20000 ∧ (n ≤ 20000 → ∀ m, (tw m z : Int) ≤ n) := fun z hz => weight_run D z (depth + 1) (g4 z hz) (by omega) (by omega)
    obtain ⟨acc, hacc⟩ : ∃ acc : Int, acc = 1 + (x.f0.size : Int) + (x.f1.size : Int) + (x.f3.size : Int) + (x.f2.length : Int) := ⟨_, rfl⟩
    obtain ⟨acc', a1, a2, a3, a4⟩ := l0_run x depth g2 l2 x.f2.length 0 acc (by omega) (by omega) (by omega)
    obtain ⟨K, n, hK, n0, n1, n2⟩ := l1_run x depth h0 (by omega) (2000000000000000 + (D : Int) * 20000) (by omega) (by omega) l4 hkid x.f4.length 0 acc' (by omega) (by omega) (by omega)
    refine ⟨(K + 1) + x.f2.length + 1 + 1, n, ?_, by omega, ?_, fun h m => ?_⟩
    · show wharfref05_Weight.f _ x.f0 x.f1 x.f2 x.f3 x.f4 20000 depth = some n
      rw [wharfref05_Weight.f, if_neg (by omega)]
      rw [sum4 _ _ _ _ s0 s1 s3 l2, ← hacc]
      refine a4 (K + 1) n ?_
      rw [wharfref05_Weight.j1]
      exact hK
    · rcases n1 with n1 | n1
      · have : (0 : Int) ≤ (D : Int) * 20000 := by omega
        rw [Int.natCast_add, Int.add_mul]
        omega
      · rw [Int.natCast_add, Int.add_mul]
        omega
    · cases m with
      | zero => simp [tw]; omega
      | succ m =>
        have h1 := n2 h m
        have h2 := a3 (by omega)
        simp only [List.drop_zero] at h1 h2
        simp only [tw]
        omega
theorem sumN_mem {α : Type} (f : α → Nat) {x : α} : ∀ {l : List α}, x ∈ l → f x ≤ sumN f l
  | [], h => by simp at h
  | a :: l, h => by
    rw [sumN_cons]
    rcases List.mem_cons.1 h with rfl | h
    · omega
    · have := sumN_mem f h
      omega
theorem flatMap_sum {α : Type} (f : α → List UInt8) (g : α → Nat) (c : Nat) : ∀ (l : List α), (∀ x ∈ l, (f x).length ≤ c * g x) → (l.flatMap f).length ≤ c * sumN g l
  | [], _ => by simp
  | a :: l, h => by
    have h1 := h a (by simp)
    have h2 := flatMap_sum f g c l (fun x hx => h x (by simp [hx]))
    simp only [List.flatMap_cons, List.length_append]
    rw [sumN_cons, Nat.mul_add]
    omega
theorem tw_pos : ∀ (k : Nat) (e : S25), 1 ≤ tw k e
  | 0, _ => Nat.le_refl _
  | k + 1, e => by simp only [tw]; omega
theorem sumN_length {α : Type} (f : α → Nat) (h : ∀ a, 1 ≤ f a) : ∀ (l : List α), l.length ≤ sumN f l
  | [] => by simp [sumN]
  | a :: l => by
    rw [sumN_cons, List.length_cons]
    have := sumN_length f h l
    have := h a
    omega
theorem tw_eOk : ∀ (k : Nat) (e : S25), tw k e ≤ 20000 → eOkB k e = true
  | 0, _, _ => rfl
  | k + 1, e, h => by
    simp only [tw] at h
    simp only [eOkB, Bool.and_eq_true, List.all_eq_true, decide_eq_true_eq]
    have hk := sumN_length (tw k) (tw_pos k) e.f4
    refine ⟨⟨⟨by omega, by omega, by omega, by omega, by omega⟩, fun x hx => ?_⟩, fun x hx => ?_⟩
    · have h5 : x.f0.size + x.f1.size ≤ sumN (fun a : S51 => a.f0.size + a.f1.size) e.f2 := sumN_mem (fun a : S51 => a.f0.size + a.f1.size) hx
      constructor <;> omega
    · have := sumN_mem (tw k) hx
      exact tw_eOk k x (by omega)
theorem attrL_le (a b : ByteArray) : (attrL a b).length ≤ 6 * (a.size + b.size) + 4 := by
  have := quoteL_length b.data.toList
  have e : a.data.toList.length = a.size := size_data a
  have e' : b.data.toList.length = b.size := size_data b
  simp only [attrL, List.length_append, List.length_cons, List.length_nil]
  omega
theorem attrsL_le : ∀ (l : List S51), (attrsL l).length ≤ 6 * sumN (fun a : S51 => a.f0.size + a.f1.size) l + 4 * l.length
  | [] => by simp [attrsL]
  | a :: l => by
    have h1 := attrsL_le l
    have h2 := attrL_le a.f0 a.f1
    simp only [attrsL, List.flatMap_cons, List.length_append, List.length_cons] at h1 ⊢
    rw [sumN_cons]
    omega
theorem putL_le : ∀ (k : Nat) (e : S25) (sp : ByteArray), (putL k e sp).length ≤ 40 * tw k e
  | 0, _, _ => by simp [putL]
  | k + 1, e, sp => by
    have hq := quoteL_length e.f3.data.toList
    have e3 : e.f3.data.toList.length = e.f3.size := size_data e.f3
    have e1 : e.f1.data.toList.length = e.f1.size := size_data e.f1
    have ha := attrsL_le e.f2
    have hn : (nsL e sp).length ≤ 6 * e.f0.size + 34 - 0 := by
      unfold nsL
      split
      · simp
      · have := attrL_le xmlnsS e.f0
        have e5 : xmlnsS.size = 5 := rfl
        omega
    have hk := flatMap_sum (fun c => putL k c e.f0) (tw k) 40 e.f4 (fun x _ => putL_le k x e.f0)
    simp only [putL, tw, List.length_append]
    obtain ⟨P, hP⟩ : ∃ P, (e.f4.flatMap fun c => putL k c e.f0) = P := ⟨_, rfl⟩
    rw [hP] at hk ⊢
    obtain ⟨S, hS⟩ : ∃ S, sumN (tw k) e.f4 = S := ⟨_, rfl⟩
    obtain ⟨T, hT⟩ : ∃ T, sumN (fun a : S51 => a.f0.size + a.f1.size) e.f2 = T := ⟨_, rfl⟩
    rw [hT] at ha
    rw [hS] at hk
    rw [hS, hT]
    split
    · simp only [List.length_cons, List.length_nil]
      omega
    · simp only [List.length_append, List.length_cons, List.length_nil]
      omega
theorem elemB_dOkB : ∀ (k : Nat) (e : S25), elemB k e = true → dOkB k e = true
  | 0, _, h => by cases h
  | k + 1, e, h => by
    simp only [elemB, Bool.and_eq_true, List.all_eq_true] at h
    simp only [dOkB, List.all_eq_true]
    exact fun x hx => elemB_dOkB k x (h.2 x hx)
theorem small_run (x : S25) (hg : good25 x) : ∃ (k : Nat) (b : Bool), (∀ k', k ≤ k' → wharflaw05_small.f k' x.f0 x.f1 x.f2 x.f3 x.f4 = some b) ∧ (b = true → fitB x = true) := by
  obtain ⟨k, n, hk, h0, _, h1⟩ := weight_run 41 x 0 hg (by omega) (by omega)
  refine ⟨k, decide (n ≤ 20000), fun k' hk' => ?_, fun h => ?_⟩
  · unfold wharflaw05_small.f
    have : W5 k' x 0 = some n := mono_to (f := fun k => W5 k x 0) (W5_mono _ _) hk' hk
    rw [show wharfref05_Weight.f k' x.f0 x.f1 x.f2 x.f3 x.f4 20000 0 = some n from this]
    rfl
  · have h2 := h1 (of_decide_eq_true h) 16
    have h3 : n ≤ 20000 := of_decide_eq_true h
    have h4 := putL_le 16 x ⟨#[]⟩
    unfold fitB
    rw [tw_eOk 16 x (by omega), Bool.true_and]
    exact decide_eq_true (by omega)
theorem check_elem {e : S25} (h : checkI e = 0) : elemB 16 e = true := by
  unfold checkI at h
  by_cases he : elemB 16 e = true
  · exact he
  · rw [if_neg he] at h
    cases h
theorem checkI_two (e : S25) : checkI e = 0 ∨ checkI e = 50 := by
  unfold checkI
  split
  · split
    · exact Or.inl rfl
    · exact Or.inr rfl
  · exact Or.inr rfl
theorem live_j (k : Nat) (a b : S25) : wharflaw05_TagApart.j0 (k + 1) true a.f0 a.f1 a.f2 a.f3 a.f4 b.f0 b.f1 b.f2 b.f3 b.f4 = some true := by
  rw [wharflaw05_TagApart.j0, if_pos rfl]
  rfl
theorem TagApart : ∀ (a0 : S25) (a1 : S25), good25 a0 → good25 a1 → ∃ k, wharflaw05_TagApart.f k a0.f0 a0.f1 a0.f2 a0.f3 a0.f4 a1.f0 a1.f1 a1.f2 a1.f3 a1.f4 = some true := by
  intro a b ga gb
  obtain ⟨k0, x, hx, fx⟩ := small_run a ga
  obtain ⟨k1, y, hy, fy⟩ := small_run b gb
  refine ⟨max k0 k1 + 1, ?_⟩
  unfold wharflaw05_TagApart.f
  rw [hx _ (by omega), Option.bind_some]
  cases x with
  | false =>
    rw [if_neg (by simp)]
    exact live_j _ a b
  | true =>
    rw [if_pos rfl, hy _ (by omega), Option.bind_some]
    cases y with
    | false =>
      rw [if_neg (by simp)]
      exact live_j _ a b
    | true =>
      have f1 := fx rfl
      have f2 := fy rfl
      have c1 : tag_Check.f a.f0 a.f1 a.f2 a.f3 a.f4 = some (checkI a) := if_pos f1
      have c2 : tag_Check.f b.f0 b.f1 b.f2 b.f3 b.f4 = some (checkI b) := if_pos f2
      rw [if_pos rfl, c1, Option.bind_some]
      unfold wharflaw05_num.f
      rw [Option.bind_some, c2, Option.bind_some, Option.bind_some]
      by_cases hz : checkI a = 0 ∧ checkI b = 0
      · obtain ⟨z1, z2⟩ := hz
        have e1 := check_elem z1
        have e2 := check_elem z2
        unfold fitB at f1 f2
        simp only [Bool.and_eq_true, decide_eq_true_eq] at f1 f2
        have p1 : tag_Put.f a.f0 a.f1 a.f2 a.f3 a.f4 ⟨#[]⟩ = some ⟨(putL 16 a ⟨#[]⟩).toArray⟩ := if_pos (by rw [Bool.and_eq_true]; exact ⟨elemB_dOkB 16 a e1, decide_eq_true f1.2⟩)
        have p2 : tag_Put.f b.f0 b.f1 b.f2 b.f3 b.f4 ⟨#[]⟩ = some ⟨(putL 16 b ⟨#[]⟩).toArray⟩ := if_pos (by rw [Bool.and_eq_true]; exact ⟨elemB_dOkB 16 b e2, decide_eq_true f2.2⟩)
        have p3 : tag_Same.f a.f0 a.f1 a.f2 a.f3 a.f4 b.f0 b.f1 b.f2 b.f3 b.f4 = some (sameF 16 a b) := if_pos (by rw [Bool.and_eq_true]; exact ⟨elemB_dOkB 16 a e1, f1.1⟩)
        rw [z1, z2]
        have ew : (wrap64 (0 + 0) != 0) = false := by rw [wrapId _ (by omega) (by omega)]; rfl
        rw [ew, wharflaw05_TagApart.j0, if_neg (by simp), p1, Option.bind_some, p2, Option.bind_some, p3, Option.bind_some]
        have hap := Go.Proofs.Ytepdfpclicdpfaa.TagBack.apart 16 a b e1 e2 ⟨#[]⟩
        have heq : ((⟨(putL 16 a ⟨#[]⟩).toArray⟩ : ByteArray).toList == (⟨(putL 16 b ⟨#[]⟩).toArray⟩ : ByteArray).toList) = decide (putL 16 a ⟨#[]⟩ = putL 16 b ⟨#[]⟩) := by
          rw [ByteArray_toList_mk, ByteArray_toList_mk]
          rw [Bool.eq_iff_iff, beq_iff_eq, decide_eq_true_iff]
        rw [heq, hap, if_pos (by simp)]
        rfl
      · have ew : (wrap64 (checkI a + checkI b) != 0) = true := by
          rw [bne_iff_ne]
          rcases checkI_two a with h1 | h1 <;> rcases checkI_two b with h2 | h2
          · exact absurd ⟨h1, h2⟩ hz
          all_goals
            rw [h1, h2, wrapId _ (by omega) (by omega)]
            decide
        rw [ew]
        exact live_j _ a b
end Go.Proofs.Ytepdfpclicdpfaa.Pure
