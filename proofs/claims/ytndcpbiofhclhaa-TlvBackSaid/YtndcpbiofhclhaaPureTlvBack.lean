import Derived.Test.YtndcpbiofhclhaaHx10
import Derived.Test.YtndcpbiofhclhaaGood
import Derived.Test.YtndcpbiofhclhaaTlvThere
namespace Go.Proofs.Ytndcpbiofhclhaa.Pure
open Go.RowKit Go.Proofs.Ytndcpbiofhclhaa.H Go.Proofs.YtndcpbiofhclhaaW.PrintWords Go.Proofs.YtndcpbiofhclhaaW.PrintLast Go.Proofs.YtndcpbiofhclhaaW.PrintMore Go.Proofs.Ytndcpbiofhclhaa.Bytes Go.Proofs.Ytndcpbiofhclhaa.Tlv

theorem back4 (w : Int) (c : Int) (s : ByteArray) (h : tlvFits s.size w = true) (b : Bool) (hb : b = false → 0 ≤ c ∧ c < ((nbytes s.size w ++ s).size : Int)) (k : Nat) (hk : 30 ≤ k) : wharflaw11_TlvBack.j4 (k + 1) w c (nbytes s.size w ++ s) b = some true := by
  simp only [wharflaw11_TlvBack.j4]
  rw [live k (by omega), Option.bind_some]
  cases b with
  | true => rfl
  | false =>
    obtain ⟨h0, h1⟩ := hb rfl
    rw [if_neg Bool.false_ne_true, if_pos h0, if_pos (by omega), First_eq _ _ k (by omega), Option.bind_some, first_cut s w c.toNat h (by omega)]
    rfl
theorem back3 (w : Int) (c : Int) (s : ByteArray) (h : tlvFits s.size w = true) (k : Nat) (hk : 40 ≤ k) : wharflaw11_TlvBack.j3 (k + 1) w c (nbytes s.size w ++ s) false = some true := by
  obtain ⟨k, rfl⟩ : ∃ m, k = m + 1 := ⟨k - 1, by omega⟩
  simp only [wharflaw11_TlvBack.j3]
  rw [if_neg Bool.false_ne_true]
  by_cases h0 : c < 0
  · rw [if_pos h0]
    exact back4 w c s h true (fun e => by cases e) k (by omega)
  · rw [if_neg h0]
    exact back4 w c s h _ (fun e => by rw [decide_eq_false_iff_not] at e; omega) k (by omega)
theorem back2 (w : Int) (s more : ByteArray) (hs : s.size ≤ 140737488351232) (hm : more.size ≤ 140737488351232) (c : Int) (k : Nat) (hk : 50 ≤ k) : wharflaw11_TlvBack.j2 (k + 1) w s more c false = some true := by
  obtain ⟨k, rfl⟩ : ∃ m, k = m + 1 := ⟨k - 1, by omega⟩
  simp only [wharflaw11_TlvBack.j2]
  rw [if_neg Bool.false_ne_true, Text_eq s w hs, Option.bind_some]
  simp only [wharflaw11_num.f, Option.bind_some]
  unfold text
  by_cases h : tlvFits s.size w = true
  · rw [if_pos h]
    dsimp only
    have hz := bytes_size s.size w (fits_w h)
    have zz : (nbytes s.size w ++ s).size = (nbytes s.size w).size + s.size := ByteArray.size_append
    have hw := fits_w h
    rw [if_pos rfl, if_pos (by omega), First_eq _ _ (k + 1) (by omega), Option.bind_some, first_text s more w h]
    dsimp only
    rw [if_pos rfl, if_pos rfl, show (more.toList != more.toList) = false from bne_self_eq_false ..]
    exact back3 w c s h k (by omega)
  · rw [if_neg h]
    dsimp only
    rw [if_neg (by decide), live (k + 1) (by omega)]
    rfl
theorem back1 (w : Int) (l : List S75) (hg : ∀ z ∈ l, z.f1.size ≤ 140737488351232) (s more : ByteArray) (hs : s.size ≤ 140737488351232) (hm : more.size ≤ 140737488351232) (c : Int) (k : Nat) (hk : 200 ≤ k) : wharflaw11_TlvBack.j1 (k + 1) w l s more c false = some true := by
  obtain ⟨k, rfl⟩ : ∃ m, k = m + 1 := ⟨k - 1, by omega⟩
  simp only [wharflaw11_TlvBack.j1]
  rw [if_neg Bool.false_ne_true, Put_eq l hg _ (by omega), Option.bind_some]
  unfold tlv_Parse.f
  simp only [wharflaw11_num.f, Option.bind_some]
  have h2 := back2 w s more hs hm c k (by omega)
  by_cases h : l.length ≤ 64 ∧ ∀ x ∈ l, fits1 x
  · rw [put_ok h.1 h.2]
    dsimp only
    rw [parse_cat h.1 h.2]
    dsimp only
    rw [if_pos rfl, if_pos rfl, Same_eq l l (by omega) _ (by omega), Option.bind_some, decide_eq_true rfl]
    exact h2
  · rcases put_err h with e | e
    · rw [e]
      dsimp only
      rw [if_neg (by decide)]
      exact h2
    · rw [e]
      dsimp only
      rw [if_neg (by decide)]
      exact h2
theorem TlvBack : ∀ (a0 : Int) (a1 : Int) (a2 : List (S75)) (a3 : ByteArray) (a4 : ByteArray) (a5 : Int), (Lit.int .i64 a0).wf = true → (Lit.int .i64 a1).wf = true → (a2.length ≤ maxLen ∧ a2.length * 24 ≤ 140737488351232 ∧ ∀ z ∈ a2, good75 z) → a3.size ≤ 140737488351232 → a4.size ≤ 140737488351232 → (Lit.int .i64 a5).wf = true → ∃ k, wharflaw11_TlvBack.f k a0 a1 a2 a3 a4 a5 = some true := by
  intro n w l s more c _ _ hg hs hm _
  have hgs : ∀ z ∈ l, z.f1.size ≤ 140737488351232 := fun z hz => (hg.2.2 z hz).2
  obtain ⟨K, hK⟩ : ∃ K : Nat, K = 300 := ⟨_, rfl⟩
  refine ⟨K + 1, ?_⟩
  obtain ⟨b, hb, _⟩ := small_some l hgs (K + 1) (by omega)
  have hl := live K (by omega)
  have h1 := back1 w l hgs s more hs hm c (K - 1) (by omega)
  rw [show K - 1 + 1 = K by omega] at h1
  unfold wharflaw11_TlvBack.f
  rw [hb, Option.bind_some]
  have hj : ∀ x : Bool, wharflaw11_TlvBack.j0 (K + 1) n w l s more c x = some true := by
    intro x
    simp only [wharflaw11_TlvBack.j0]
    rw [hl, Option.bind_some]
    cases x with
    | true => rfl
    | false =>
      rw [if_neg Bool.false_ne_true, Int_eq, Option.bind_some, Num_eq _ _ (by omega), Option.bind_some]
      simp only [wharflaw11_num.f, Option.bind_some]
      by_cases h : tlvFits n w = true
      · rw [if_pos h]
        dsimp only
        have hw := fits_w h
        have hz := bytes_size n w hw
        have e : numAns (nbytes n w) = (n, 0) := by
          unfold numAns
          rw [if_pos (by omega), num_bytes n w h]
        rw [e]
        dsimp only
        rw [if_pos rfl, if_pos rfl, if_pos rfl, show ((((nbytes n w).size : Int)) != w) = false from bne_eq_false_iff_eq.mpr hz]
        exact h1
      · rw [if_neg h]
        dsimp only
        rw [if_neg (by decide)]
        exact h1
  cases b with
  | true => rw [if_pos rfl]; exact hj _
  | false => rw [if_neg Bool.false_ne_true]; exact hj _
end Go.Proofs.Ytndcpbiofhclhaa.Pure
