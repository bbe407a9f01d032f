import Derived.Test.YtbeclnffcapfpaaHx8
import Derived.Test.YtbeclnffcapfpaaGood
import Derived.Test.YtbeclnffcapfpaaRateLine
namespace Go.Proofs.Ytbeclnffcapfpaa.Pure
open Go.RowKit Go.Proofs.Ytbeclnffcapfpaa.H Go.Proofs.YtbeclnffcapfpaaW.PrintWords Go.Proofs.YtbeclnffcapfpaaW.PrintLast Go.Proofs.YtbeclnffcapfpaaW.PrintMore Go.Proofs.Ytbeclnffcapfpaa.Rate

/-- a status -/
def stat (s : Int) : Note := ⟨11, ⟨#[]⟩, ⟨#[]⟩, ⟨#[]⟩, 0, s, 0, 0, false, [], []⟩
theorem push_other (a : Note) (ha : ¬ a.f0 = 11) (hb : ¬ a.f0 = 12) (l : List Note) (hl : l.length < 16) : push l a = (l ++ [a], 0) := by
  unfold push
  rw [if_neg (by omega), if_neg (by omega)]
theorem push_full (a : Note) (ha : ¬ a.f0 = 11) (hb : ¬ a.f0 = 12) (l : List Note) (hl : 16 ≤ l.length) : push l a = (l, 5) := by
  unfold push
  rw [if_neg (by omega), if_pos (by omega)]
theorem push_stat (s : Int) (l : List Note) : push (stat 0 :: l) (stat s) = (stat s :: l, 0) := by
  have e : rateIdx (stat 0 :: l) (stat s).f0 = 0 := by
    unfold rateIdx
    rw [List.findIdx_cons]
    rfl
  unfold push
  rw [e, if_pos ⟨Or.inl rfl, by simp⟩]
  rfl
theorem full_loop (W C A L D M v t : Int) (a : Note) (ha : ¬ a.f0 = 11) (hb : ¬ a.f0 = 12) (s : Int) : ∀ (d j k : Nat), j + d = 15 → d + 100 ≤ k →
    wharflaw19_RateFull.l0 k s ((j : Int) + 1) a.f0 a.f1 a.f2 a.f3 a.f4 a.f5 a.f6 a.f7 a.f8 a.f9 a.f10 W C A L D M v t (stat 0 :: List.replicate j a) = some true := by
  intro d
  induction d with
  | zero =>
    intro j k hj hk
    obtain ⟨k, rfl⟩ : ∃ m, k = m + 1 := ⟨k - 1, by omega⟩
    obtain rfl : j = 15 := by omega
    simp only [wharflaw19_RateFull.l0]
    have p1 := Push_eq W C A L D M v t (stat 0 :: List.replicate 15 a) a (by simp) k (by omega)
    have p2 := Push_eq W C A L D M v t (stat 0 :: List.replicate 15 a) (stat s) (by simp) k (by omega)
    rw [push_full a ha hb _ (by simp)] at p1
    rw [push_stat] at p2
    rw [if_neg (by omega), p1, Option.bind_some]
    have p2' : rate_Push.f k W C A L D M v t (stat 0 :: List.replicate 15 a) 11 (⟨#[]⟩ : ByteArray) (⟨#[]⟩ : ByteArray) (⟨#[]⟩ : ByteArray) 0 s 0 0 false ([] : List (S69)) ([] : List Int) = some (W, C, A, L, D, M, v, t, stat s :: List.replicate 15 a, 0) := p2
    rw [p2', Option.bind_some]
    simp only [wharflaw19_num.f, Option.bind_some]
    rw [if_pos trivial, if_pos trivial, if_pos (by simp), if_pos (by simp), if_pos (by rfl), live k (by omega)]
    rfl
  | succ d ih =>
    intro j k hj hk
    obtain ⟨k, rfl⟩ : ∃ m, k = m + 1 := ⟨k - 1, by omega⟩
    simp only [wharflaw19_RateFull.l0]
    have p1 := Push_eq W C A L D M v t (stat 0 :: List.replicate j a) a (by simp; omega) k (by omega)
    rw [push_other a ha hb _ (by simp; omega)] at p1
    rw [if_pos (by omega), p1, Option.bind_some]
    simp only [wharflaw19_num.f, Option.bind_some]
    rw [if_pos trivial, wid _ (by omega) (by omega)]
    have e : (stat 0 :: List.replicate j a) ++ [a] = stat 0 :: List.replicate (j + 1) a := by rw [List.replicate_succ']; rfl
    rw [e, show ((j : Int) + 1) = ((j + 1 : Nat) : Int) by omega]
    exact ih (j + 1) k (by omega) (by omega)
theorem RateFull : ∀ (a0 : S23) (a1 : S41) (a2 : Int), good23 a0 → good41 a1 → (Lit.int .i64 a2).wf = true → ∃ k, wharflaw19_RateFull.f k a0.f0 a0.f1 a0.f2 a0.f3 a0.f4 a0.f5 a0.f6 a0.f7 a1.f0 a1.f1 a1.f2 a1.f3 a1.f4 a1.f5 a1.f6 a1.f7 a1.f8 a1.f9 a1.f10 a2 = some true := by
  intro a0 a s _ _ _
  obtain ⟨W, C, A, L, D, M, v, t⟩ := a0
  obtain ⟨K, hK⟩ : ∃ K : Nat, K = 1000 := ⟨_, rfl⟩
  refine ⟨K + 1, ?_⟩
  have ht : ∀ b : Bool, (b = false → ¬ a.f0 = 11 ∧ ¬ a.f0 = 12) → wharflaw19_RateFull.j0 (K + 1) s b W C A L D M v t a.f0 a.f1 a.f2 a.f3 a.f4 a.f5 a.f6 a.f7 a.f8 a.f9 a.f10 = some true := by
    intro b hb
    simp only [wharflaw19_RateFull.j0]
    cases b with
    | true => rw [if_pos rfl, live K (by omega)]; rfl
    | false =>
      obtain ⟨ha, hb⟩ := hb rfl
      have p : push [] (stat 0) = ([stat 0], 0) := by
        unfold push
        rw [if_neg (fun h => absurd h.2 (Nat.not_lt_zero _)), if_neg (by simp)]
        rfl
      have p1 := Push_eq W C A L D M v t [] (stat 0) (by simp) K (by omega)
      rw [p] at p1
      have p1' : rate_Push.f K W C A L D M v t ([] : List Note) 11 (⟨#[]⟩ : ByteArray) (⟨#[]⟩ : ByteArray) (⟨#[]⟩ : ByteArray) 0 0 0 0 false ([] : List (S69)) ([] : List Int) = some (W, C, A, L, D, M, v, t, [stat 0], 0) := p1
      rw [if_neg Bool.false_ne_true, p1', Option.bind_some]
      simp only [wharflaw19_num.f, Option.bind_some]
      rw [if_pos trivial]
      exact full_loop W C A L D M v t a ha hb s 15 0 K (by omega) (by omega)
  obtain ⟨w, hw⟩ := note_some a (K + 1) (by omega)
  unfold wharflaw19_RateFull.f
  dsimp only
  rw [Check_eq W C A L D M v t (K + 1) (by omega), Option.bind_some]
  simp only [wharflaw19_num.f, Option.bind_some]
  by_cases hr : Rok W C A L D M v t
  · rw [if_pos hr, if_pos rfl, hw, Option.bind_some]
    split
    · exact ht true (fun e => by cases e)
    · split
      · exact ht true (fun e => by cases e)
      · rename_i c1
        split
        · exact ht true (fun e => by cases e)
        · rename_i c2
          split
          · exact ht true (fun e => by cases e)
          · exact ht _ (fun _ => ⟨c1, c2⟩)
  · rw [if_neg hr, if_neg (by decide)]
    exact ht true (fun e => by cases e)
end Go.Proofs.Ytbeclnffcapfpaa.Pure
