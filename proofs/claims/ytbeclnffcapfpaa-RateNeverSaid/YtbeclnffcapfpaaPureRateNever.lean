import Derived.Test.YtbeclnffcapfpaaHx5
import Derived.Test.YtbeclnffcapfpaaGood
import Derived.Test.YtbeclnffcapfpaaRateLine
namespace Go.Proofs.Ytbeclnffcapfpaa.Pure
open Go.RowKit Go.Proofs.Ytbeclnffcapfpaa.H Go.Proofs.YtbeclnffcapfpaaW.PrintWords Go.Proofs.YtbeclnffcapfpaaW.PrintLast Go.Proofs.YtbeclnffcapfpaaW.PrintMore Go.Proofs.Ytbeclnffcapfpaa.Rate

theorem never_loop (acts : List (S43)) (ha : acts.length ≤ 60) (W C A L D M : Int) : ∀ (d i k : Nat) (v t : Int) (l : List Note), i + d = acts.length → 3 * d + 300 ≤ k → Rok W C A L D M v t → L ≤ v → l.length ≤ 16 →
    wharflaw19_RateNever.l0 k acts (i : Int) W C A L D M v t l = some true := by
  intro d
  induction d with
  | zero =>
    intro i k v t l hi hk _ _ _
    obtain ⟨k, rfl⟩ : ∃ m, k = m + 1 := ⟨k - 1, by omega⟩
    simp only [wharflaw19_RateNever.l0]
    rw [if_neg (by omega), live k (by omega)]
    rfl
  | succ d ih =>
    intro i k v t l hi hk hr hv hl
    obtain ⟨k, rfl⟩ : ∃ m, k = m + 3 := ⟨k - 3, by omega⟩
    have hlv := fun q hq => live q hq
    -- behind a step
    have step : ∀ (v' t' : Int) (l' : List Note), Rok W C A L D M v' t' → L ≤ v' → l'.length ≤ 16 → wharflaw19_RateNever.j3 (k + 1) acts (i : Int) W C A L D M v' t' l' = some true := by
      intro v' t' l' hr' hv' hl'
      simp only [wharflaw19_RateNever.j3]
      rw [if_neg (by omega), Check_eq W C A L D M v' t' k (by omega), Option.bind_some, if_pos hr']
      simp only [wharflaw19_num.f, Option.bind_some]
      rw [if_pos trivial, if_neg (by omega), wid ((i : Int) + 1) (by omega) (by omega), show ((i : Int) + 1) = ((i + 1 : Nat) : Int) by omega]
      exact ih (i + 1) k v' t' l' (by omega) (by omega) hr' hv' hl'
    have mid : ∀ b : Bool, (b = false → 0 ≤ (rd_T43 acts (i : Int)).f2 ∧ (rd_T43 acts (i : Int)).f2 ≤ 4503599627370496) → wharflaw19_RateNever.j2 (k + 2) acts (i : Int) b W C A L D M v t l = some true := by
      intro b hb
      simp only [wharflaw19_RateNever.j2]
      cases b with
      | true => rw [if_pos rfl, hlv _ (by omega)]; rfl
      | false =>
        obtain ⟨n0, n1⟩ := hb rfl
        rw [if_neg Bool.false_ne_true, if_pos (by omega), if_pos (by omega)]
        split
        · rw [Push_eq W C A L D M v t l _ (by omega) (k + 1) (by omega), Option.bind_some]
          exact step v t _ hr hv (push_len l _ hl)
        · rw [Pop_eq hr _ n0 n1 l (by omega) (k + 1) (by omega), Option.bind_some]
          have hp := pop_ok W C A L D M _ n0 n1 l v t hr
          refine step _ _ _ hp.1 (hp.2 hv) ?_
          have := congrArg List.length (pop_parts W L M (rd_T43 acts (i : Int)).f2 l v t)
          rw [List.length_append] at this
          show (pop W L M (rd_T43 acts (i : Int)).f2 v t l).2.2.2.length ≤ 16
          omega
    simp only [wharflaw19_RateNever.l0]
    rw [if_pos (by omega), if_pos (by omega)]
    obtain ⟨w, hw⟩ := note_some (rd_T43 acts (i : Int)).f1 (k + 2) (by omega)
    rw [hw, Option.bind_some]
    split
    · exact mid true (fun e => by cases e)
    · rw [time_eq, Option.bind_some]
      refine mid _ (fun e => ?_)
      rw [Bool.not_eq_false', decide_eq_true_iff] at e
      exact e
theorem RateNever : ∀ (a0 : S23) (a1 : List (S43)), good23 a0 → (a1.length ≤ maxLen ∧ a1.length * 160 ≤ 140737488351232 ∧ ∀ z ∈ a1, good43 z) → ∃ k, wharflaw19_RateNever.f k a0.f0 a0.f1 a0.f2 a0.f3 a0.f4 a0.f5 a0.f6 a0.f7 a1 = some true := by
  intro a0 acts _ _
  obtain ⟨W, C, A, L, D, M, v, t⟩ := a0
  obtain ⟨K, hK⟩ : ∃ K : Nat, K = 1000 := ⟨_, rfl⟩
  refine ⟨K + 1, ?_⟩
  have ht : ∀ b : Bool, (b = false → Rok W C A L D M v t ∧ L ≤ v ∧ acts.length ≤ 60) → wharflaw19_RateNever.j0 (K + 1) acts b W C A L D M v t = some true := by
    intro b hb
    simp only [wharflaw19_RateNever.j0]
    cases b with
    | true => rw [if_pos rfl, live K (by omega)]; rfl
    | false =>
      obtain ⟨hr, hv, hl⟩ := hb rfl
      rw [if_neg Bool.false_ne_true]
      exact never_loop acts hl W C A L D M acts.length 0 K v t [] (by omega) (by omega) hr hv (Nat.zero_le _)
  unfold wharflaw19_RateNever.f
  dsimp only
  rw [Check_eq W C A L D M v t (K + 1) (by omega), Option.bind_some]
  simp only [wharflaw19_num.f, Option.bind_some]
  by_cases hr : Rok W C A L D M v t
  · rw [if_pos hr, if_pos rfl]
    by_cases c : v < L
    · rw [if_pos c]; exact ht true (fun e => by cases e)
    · rw [if_neg c]
      refine ht _ (fun e => ⟨hr, by omega, ?_⟩)
      rw [decide_eq_false_iff_not] at e
      omega
  · rw [if_neg hr, if_neg (by decide)]
    exact ht true (fun e => by cases e)
end Go.Proofs.Ytbeclnffcapfpaa.Pure
