import Derived.Test.YtbeclnffcapfpaaHx6
import Derived.Test.YtbeclnffcapfpaaGood
import Derived.Test.YtbeclnffcapfpaaRate
namespace Go.Proofs.Ytbeclnffcapfpaa.Pure
open Go.RowKit Go.Proofs.Ytbeclnffcapfpaa.H Go.Proofs.YtbeclnffcapfpaaW.PrintWords Go.Proofs.YtbeclnffcapfpaaW.PrintLast Go.Proofs.YtbeclnffcapfpaaW.PrintMore Go.Proofs.Ytbeclnffcapfpaa.Rate

theorem time_eq (n : Int) : wharflaw19_time.f n = some (decide (0 ≤ n ∧ n ≤ 4503599627370496)) := by
  unfold wharflaw19_time.f
  by_cases h : n ≥ 0
  · rw [if_pos h]
    congr 1
    rw [Bool.eq_iff_iff, decide_eq_true_iff, decide_eq_true_iff]
    omega
  · rw [if_neg h, decide_eq_false (by omega)]
section
variable {W C A L D M v t now : Int}
theorem waits3 (hr : Rok W C A L D M v t) (h0 : 0 ≤ now) (h1 : now ≤ 4503599627370496) (k : Nat) (hk : 100 ≤ k) : wharflaw19_RateWaits.j3 (k + 1) now false W C A L D M v t = some true := by
  have hp := peek_bound hr now
  simp only [wharflaw19_RateWaits.j3]
  rw [if_neg Bool.false_ne_true, behind_eq hr now h0 (by omega), Option.bind_some, if_pos hp.2, Option.bind_some, if_pos hp.1, live k (by omega)]
  rfl
theorem wait_bound (hr : Rok W C A L D M v t) (h0 : 0 ≤ now) (h1 : now ≤ 4503599627370496) : 0 ≤ wait W L v t now ∧ wait W L v t now ≤ 4503599627370496 := by
  have hn := need_bound hr
  unfold Rok at hr
  unfold wait
  split
  · omega
  · rename_i hc
    split
    · omega
    · have hd : dist t 4503599627370496 ≤ 4503599627370496 - t := by
        unfold dist
        rw [if_neg (by omega)]
        split <;> omega
      split <;> omega
theorem waits2 (hr : Rok W C A L D M v t) (h0 : 0 ≤ now) (h1 : now ≤ 4503599627370496) (b : Bool) (hb : b = true → wait W L v t now < 4503599627370496 ∧ wait W L v t now ≤ 4503599627370496 - now) (k : Nat) (hk : 200 ≤ k) : wharflaw19_RateWaits.j2 (k + 1) now (wait W L v t now) b W C A L D M v t = some true := by
  obtain ⟨k, rfl⟩ : ∃ m, k = m + 1 := ⟨k - 1, by omega⟩
  have hp := peek_bound hr now
  have hw := wait_bound hr h0 h1
  simp only [wharflaw19_RateWaits.j2]
  cases b with
  | false =>
    rw [if_neg Bool.false_ne_true, behind_eq hr now h0 (by omega), Option.bind_some, if_pos hp.2, Option.bind_some, if_pos hp.1, live (k + 1) (by omega)]
    rfl
  | true =>
    obtain ⟨w1, w2⟩ := hb rfl
    have hlt : ¬ need W L v > dist t 4503599627370496 := by
      intro h
      unfold wait at w1
      rw [if_pos h] at w1
      omega
    rw [if_pos rfl, wid (now + wait W L v t now) (by omega) (by omega), May_eq hr _ (by omega) (by omega), Option.bind_some, decide_eq_true ((wait_iff hr now hlt _ hw.1).mpr (Int.le_refl _)), if_pos rfl]
    by_cases c : wait W L v t now > 0
    · rw [if_pos c, wid (now + wait W L v t now - 1) (by omega) (by omega), May_eq hr _ (by omega) (by omega), Option.bind_some]
      rw [decide_eq_false (by
        have := wait_iff hr now hlt (wait W L v t now - 1) (by omega)
        rw [show now + (wait W L v t now - 1) = now + wait W L v t now - 1 by omega] at this
        rw [this]
        omega)]
      exact waits3 hr h0 h1 k (by omega)
    · rw [if_neg c]
      exact waits3 hr h0 h1 k (by omega)
theorem waits0 (hr : Rok W C A L D M v t) (h0 : 0 ≤ now) (h1 : now ≤ 4503599627370496) (more : Int) (m0 : 0 ≤ more) (m1 : more ≤ 4503599627370496 - now) (k : Nat) (hk : 300 ≤ k) : wharflaw19_RateWaits.j0 (k + 1) now more false W C A L D M v t = some true := by
  obtain ⟨k, rfl⟩ : ∃ m, k = m + 2 := ⟨k - 2, by omega⟩
  have hw := wait_bound hr h0 h1
  simp only [wharflaw19_RateWaits.j0]
  rw [if_neg Bool.false_ne_true, Wait_eq hr now h0 h1 _ (by omega), Option.bind_some, if_neg (by omega), if_neg (by omega), wid (now + more) (by omega) (by omega), behind_eq hr _ (by omega) (by omega), behind_eq hr now h0 (by omega), Option.bind_some, Option.bind_some]
  rw [decide_eq_false (by have := peek_mono hr (show now ≤ now + more by omega); omega)]
  simp only [wharflaw19_RateWaits.j1]
  rw [if_neg Bool.false_ne_true, wid (4503599627370496 - now) (by omega) (by omega)]
  by_cases c : wait W L v t now ≤ 4503599627370496 - now
  · rw [if_pos c]
    exact waits2 hr h0 h1 _ (fun e => ⟨by simpa using e, c⟩) k (by omega)
  · rw [if_neg c]
    exact waits2 hr h0 h1 _ (fun e => by cases e) k (by omega)
end
theorem RateWaits : ∀ (a0 : S23) (a1 : Int) (a2 : Int), good23 a0 → (Lit.int .i64 a1).wf = true → (Lit.int .i64 a2).wf = true → ∃ k, wharflaw19_RateWaits.f k a0.f0 a0.f1 a0.f2 a0.f3 a0.f4 a0.f5 a0.f6 a0.f7 a1 a2 = some true := by
  intro a0 now more _ _ _
  obtain ⟨W, C, A, L, D, M, v, t⟩ := a0
  obtain ⟨K, hK⟩ : ∃ K : Nat, K = 1000 := ⟨_, rfl⟩
  refine ⟨K + 1, ?_⟩
  have hl := live K (by omega)
  have ht : wharflaw19_RateWaits.j0 (K + 1) now more true W C A L D M v t = some true := by
    simp only [wharflaw19_RateWaits.j0]
    rw [if_pos trivial, hl]
    rfl
  unfold wharflaw19_RateWaits.f
  dsimp only
  rw [Check_eq W C A L D M v t (K + 1) (by omega), Option.bind_some]
  simp only [wharflaw19_num.f, Option.bind_some]
  by_cases hr : Rok W C A L D M v t
  · rw [if_pos hr, if_pos rfl, time_eq, Option.bind_some]
    by_cases hn : 0 ≤ now ∧ now ≤ 4503599627370496
    · rw [decide_eq_true hn, if_pos rfl, time_eq, Option.bind_some]
      by_cases hm : 0 ≤ more ∧ more ≤ 4503599627370496
      · rw [decide_eq_true hm, if_pos rfl, wid (4503599627370496 - more) (by omega) (by omega)]
        by_cases c : now > 4503599627370496 - more
        · rw [decide_eq_true c]; exact ht
        · rw [decide_eq_false c]
          exact waits0 hr hn.1 hn.2 more hm.1 (by omega) K (by omega)
      · rw [decide_eq_false hm, if_neg Bool.false_ne_true]; exact ht
    · rw [decide_eq_false hn, if_neg Bool.false_ne_true]; exact ht
  · rw [if_neg hr, if_neg (by decide)]; exact ht
end Go.Proofs.Ytbeclnffcapfpaa.Pure
