import Derived.Test.YtndcpbiofhclhaaHx11
import Derived.Test.YtndcpbiofhclhaaGood
import Derived.Test.YtndcpbiofhclhaaTlvThere
namespace Go.Proofs.Ytndcpbiofhclhaa.Pure
open Go.RowKit Go.Proofs.Ytndcpbiofhclhaa.H Go.Proofs.YtndcpbiofhclhaaW.PrintWords Go.Proofs.YtndcpbiofhclhaaW.PrintLast Go.Proofs.YtndcpbiofhclhaaW.PrintMore Go.Proofs.Ytndcpbiofhclhaa.Bytes Go.Proofs.Ytndcpbiofhclhaa.Tlv

theorem put_cases (l : List S75) : (l.length ≤ 64 ∧ (∀ x ∈ l, fits1 x) ∧ put l = (cat l, 0)) ∨ put l = (⟨#[]⟩, 2) ∨ put l = (⟨#[]⟩, 6) := by
  by_cases h : l.length ≤ 64 ∧ ∀ x ∈ l, fits1 x
  · exact Or.inl ⟨h.1, h.2, put_ok h.1 h.2⟩
  · exact Or.inr (put_err h)
theorem cat_size : ∀ (l : List S75), (∀ x ∈ l, fits1 x) → (cat l).size ≤ l.length * 65539
  | [], _ => Nat.zero_le _
  | x :: l, h => by
    have h1 := one_size (h x (List.mem_cons_self ..))
    have h2 := cat_size l (fun y hy => h y (List.mem_cons_of_mem _ hy))
    simp only [cat, List.length_cons]
    rw [ByteArray.size_append]
    omega
theorem order1 (l m : List S75) (hl24 : l.length * 24 ≤ 140737488351232) (hm24 : m.length * 24 ≤ 140737488351232) (hg : ∀ z ∈ l, z.f1.size ≤ 140737488351232) (hh : ∀ z ∈ m, z.f1.size ≤ 140737488351232) (h65 : l.length + m.length ≤ 130) (k : Nat) (hk : 200 ≤ k) : wharflaw11_TlvOrder.j1 (k + 1) l m false = some true := by
  simp only [wharflaw11_TlvOrder.j1]
  have hgm : ∀ z ∈ l ++ m, z.f1.size ≤ 140737488351232 := fun z hz => by
    rcases List.mem_append.mp hz with h | h
    · exact hg z h
    · exact hh z h
  rw [if_neg Bool.false_ne_true, Put_eq l hg _ (by omega), Put_eq m hh _ (by omega), live k (by omega)]
  simp only [Option.bind_some, List.nil_append, List.length_nil, wharflaw11_num.f]
  rw [if_pos (by omega), if_pos (by omega), Put_eq _ hgm _ (by omega)]
  simp only [Option.bind_some]
  have w0 : ∀ a : Int, 0 ≤ a → a ≤ 100 → wrap64 a = a := fun a h0 h1 => wrap_id a (by omega) (by omega)
  rcases put_cases (l ++ m) with ⟨h1, h2, h3⟩ | h3
  · rw [List.length_append] at h1
    have hfl : ∀ x ∈ l, fits1 x := fun x hx => h2 x (List.mem_append_left _ hx)
    have hfm : ∀ x ∈ m, fits1 x := fun x hx => h2 x (List.mem_append_right _ hx)
    have zl := cat_size l hfl
    have zm := cat_size m hfm
    rw [h3, put_ok (by omega) hfl, put_ok (by omega) hfm]
    dsimp only
    rw [w0 (0 + 0) (by omega) (by omega), w0 (0 + 0 + 0) (by omega) (by omega), if_pos (by omega), if_pos (by omega), if_pos (by rw [cat_append]), if_pos rfl, if_pos (by omega)]
  · have hl0 : 0 ≤ (put l).2 ∧ (put l).2 ≤ 6 := by
      rcases put_cases l with ⟨_, _, h⟩ | h | h <;> rw [h] <;> first | decide | exact ⟨Int.le_refl 0, (show (0 : Int) ≤ 6 by decide)⟩
    have hm0 : 0 ≤ (put m).2 ∧ (put m).2 ≤ 6 := by
      rcases put_cases m with ⟨_, _, h⟩ | h | h <;> rw [h] <;> first | decide | exact ⟨Int.le_refl 0, (show (0 : Int) ≤ 6 by decide)⟩
    have hb : 2 ≤ (put (l ++ m)).2 ∧ (put (l ++ m)).2 ≤ 6 := by
      rcases h3 with h | h <;> rw [h] <;> decide
    rw [w0 ((put l).2 + (put m).2) (by omega) (by omega), w0 _ (by omega) (by omega), if_neg (by omega), if_neg (by omega)]
theorem TlvOrder : ∀ (a0 : Int) (a1 : Int) (a2 : Int) (a3 : List (S75)) (a4 : List (S75)), (Lit.int .i64 a0).wf = true → (Lit.int .i64 a1).wf = true → (Lit.int .i64 a2).wf = true → (a3.length ≤ maxLen ∧ a3.length * 24 ≤ 140737488351232 ∧ ∀ z ∈ a3, good75 z) → (a4.length ≤ maxLen ∧ a4.length * 24 ≤ 140737488351232 ∧ ∀ z ∈ a4, good75 z) → ∃ k, wharflaw11_TlvOrder.f k a0 a1 a2 a3 a4 = some true := by
  intro n m w l j _ _ _ hg hh
  have hgs : ∀ z ∈ l, z.f1.size ≤ 140737488351232 := fun z hz => (hg.2.2 z hz).2
  have hhs : ∀ z ∈ j, z.f1.size ≤ 140737488351232 := fun z hz => (hh.2.2 z hz).2
  obtain ⟨K, hK⟩ : ∃ K : Nat, K = 300 := ⟨_, rfl⟩
  refine ⟨K + 1, ?_⟩
  obtain ⟨b, hb, hb'⟩ := small_some l hgs (K + 1) (by omega)
  obtain ⟨c, hc, hc'⟩ := small_some j hhs (K + 1) (by omega)
  have hl := live K (by omega)
  unfold wharflaw11_TlvOrder.f
  rw [hb, hc, Option.bind_some, Option.bind_some]
  have ht : wharflaw11_TlvOrder.j0 (K + 1) n m w l j true = some true := by
    simp only [wharflaw11_TlvOrder.j0]
    rw [if_pos trivial, hl]
    rfl
  cases b with
  | false => rw [if_neg Bool.false_ne_true]; exact ht
  | true =>
    rw [if_pos rfl]
    cases c with
    | false => exact ht
    | true =>
      have h1 := order1 l j hg.2.1 hh.2.1 hgs hhs (by have := hb' rfl; have := hc' rfl; omega) (K - 1) (by omega)
      rw [show K - 1 + 1 = K by omega] at h1
      simp only [wharflaw11_TlvOrder.j0, Bool.not_true]
      rw [if_neg Bool.false_ne_true, Int_eq, Int_eq]
      simp only [Option.bind_some, wharflaw11_num.f]
      have w0 : ∀ a : Int, 0 ≤ a → a ≤ 100 → wrap64 a = a := fun a h0 h1 => wrap_id a (by omega) (by omega)
      by_cases hn : tlvFits n w = true
      · by_cases hm : tlvFits m w = true
        · rw [if_pos hn, if_pos hm]
          dsimp only
          rw [if_pos (by decide +kernel), toList_L, toList_L, bytes_less hn hm, show (decide (n < m) != decide (n < m)) = false from bne_self_eq_false ..]
          exact h1
        · rw [if_pos hn, if_neg hm]
          dsimp only
          rw [w0 _ (by omega) (by omega), if_neg (by omega)]
          exact h1
      · rw [if_neg hn]
        by_cases hm : tlvFits m w = true
        · rw [if_pos hm]
          dsimp only
          rw [w0 _ (by omega) (by omega), if_neg (by omega)]
          exact h1
        · rw [if_neg hm]
          dsimp only
          rw [w0 _ (by omega) (by omega), if_neg (by omega)]
          exact h1
end Go.Proofs.Ytndcpbiofhclhaa.Pure
