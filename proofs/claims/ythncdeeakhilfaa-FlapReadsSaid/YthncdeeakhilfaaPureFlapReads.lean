import Derived.Test.YthncdeeakhilfaaHx3
import Derived.Test.YthncdeeakhilfaaGood
import Derived.Test.YthncdeeakhilfaaFlapFrame
namespace Go.Proofs.Ythncdeeakhilfaa.Pure
open Go.RowKit Go.Proofs.Ythncdeeakhilfaa.H Go.Proofs.YthncdeeakhilfaaW.PrintWords Go.Proofs.YthncdeeakhilfaaW.PrintLast Go.Proofs.YthncdeeakhilfaaW.PrintMore Go.Proofs.Ythncdeeakhilfaa.Flap Go.Proofs.Ythncdeeakhilfaa.Bytes

def tot (l : List ByteArray) : Nat := (l.map ByteArray.size).sum
theorem tot_cons (b : ByteArray) (l : List ByteArray) : tot (b :: l) = b.size + tot l := by simp [tot]
theorem tot_append (a b : List ByteArray) : tot (a ++ b) = tot a + tot b := by simp [tot]
theorem small_loop (l : List ByteArray) (hg : ∀ z ∈ l, z.size ≤ 140737488351232) : ∀ (d i k : Nat), i + d = 62 → i ≤ l.length → tot (l.take i) ≤ 30000 + 140737488351232 → d < k → ∃ b, wharflaw12_small.l0 k l (tot (l.take i) : Int) (i : Int) = some b ∧ (b = true → l.length ≤ 60 ∧ tot l ≤ 30000) := by
  intro d
  induction d with
  | zero =>
    intro i k hi hl ht hk
    obtain ⟨k, rfl⟩ : ∃ m, k = m + 1 := ⟨k - 1, by omega⟩
    simp only [wharflaw12_small.l0]
    by_cases c : (i : Int) < (l.length : Int)
    · rw [if_pos c, if_neg (by omega), if_neg (by omega)]
      exact ⟨false, rfl, fun h => by cases h⟩
    · rw [if_neg c, if_neg (by omega)]
      exact ⟨false, rfl, fun h => by cases h⟩
  | succ d ih =>
    intro i k hi hl ht hk
    obtain ⟨k, rfl⟩ : ∃ m, k = m + 1 := ⟨k - 1, by omega⟩
    simp only [wharflaw12_small.l0]
    by_cases c : (i : Int) < (l.length : Int)
    · rw [if_pos c]
      by_cases c2 : (i : Int) ≤ 60
      · rw [if_pos c2]
        by_cases c3 : (tot (l.take i) : Int) ≤ 30000
        · have hlt : i < l.length := by omega
          have hr : rdOf ByteArray.empty l (i : Int) = l[i] := by simp [rdOf, List.getD_eq_getElem?_getD, hlt]
          have hz := hg l[i] (List.getElem_mem hlt)
          have hs : tot (l.take (i + 1)) = tot (l.take i) + l[i].size := by
            rw [List.take_succ_eq_append_getElem hlt, tot_append]
            rfl
          rw [if_pos c3, if_pos (by omega), hr, wrap_id ((tot (l.take i) : Int) + _) (by omega) (by omega), wrap_id ((i : Int) + 1) (by omega) (by omega)]
          have := ih (i + 1) k (by omega) (by omega) (by omega) (by omega)
          rw [hs] at this
          exact this
        · rw [if_neg c3]
          split
          · rw [decide_eq_false c3]
            exact ⟨false, rfl, fun h => by cases h⟩
          · exact ⟨false, rfl, fun h => by cases h⟩
      · rw [if_neg c2]
        rw [if_neg (by omega)]
        exact ⟨false, rfl, fun h => by cases h⟩
    · rw [if_neg c]
      have hi' : i = l.length := by omega
      have ht' : tot (l.take i) = tot l := by rw [hi', List.take_length]
      rw [ht']
      by_cases c2 : (l.length : Int) ≤ 60
      · rw [if_pos c2]
        exact ⟨_, rfl, fun h => ⟨by omega, by have := of_decide_eq_true h; omega⟩⟩
      · rw [if_neg c2]
        exact ⟨false, rfl, fun h => by cases h⟩
theorem small_some (l : List ByteArray) (hg : ∀ z ∈ l, z.size ≤ 140737488351232) (k : Nat) (hk : 63 ≤ k) : ∃ b, wharflaw12_small.f k l = some b ∧ (b = true → l.length ≤ 60 ∧ tot l ≤ 30000) :=
  small_loop l hg 62 0 k rfl (Nat.zero_le _) (by simp [tot]) (by omega)
theorem reads_go (k : Nat) (hk : 3000000 ≤ k) : ∀ (t : List ByteArray) (st : FlapSt) (got : List Fr) (all : ByteArray), flapRun (L all) flapNew [] = (st, got) → all.size + tot t ≤ 30000 → flapReadsGo k t st got all = some true := by
  intro t
  induction t with
  | nil => intro st got all _ _; rfl
  | cons b t ih =>
    intro st got all h hs
    rw [tot_cons] at hs
    have h1 : flapRun (L (all ++ b)) flapNew [] = ((flapRun (L b) st []).1, got ++ (flapRun (L b) st []).2) := by
      rw [L_append, flapRun_append, h]
      exact flapRun_out (L b) st got
    have hz : (all ++ b).size = all.size + b.size := ByteArray.size_append
    have hall := All_eq (all ++ b) (by omega) k hk
    rw [← run_new (L (all ++ b)) ((all ++ b).size + 1) (Nat.lt_succ_self _), h1] at hall
    have l1 := flapRun_len (L all) flapNew []
    rw [h] at l1
    have l2 := flapRun_len (L b) st []
    have za : (L all).length = all.size := rfl
    have zb : (L b).length = b.size := rfl
    dsimp only at l1
    simp only [List.length_nil, Nat.zero_add] at l1 l2
    have hgo := ih (flapRun (L b) st []).1 (got ++ (flapRun (L b) st []).2) (all ++ b) h1 (by omega)
    simp only [flapReadsGo]
    rw [if_pos ⟨by omega, by omega, by omega⟩, hall, Option.bind_some]
    unfold tells
    dsimp only
    rw [same_self _ (by rw [List.length_append]; omega) k (by rw [List.length_append]; omega), Option.bind_some, if_pos ⟨rfl, rfl, rfl⟩]
    exact hgo
theorem FlapReads : ∀ (a0 : List ByteArray), (a0.length ≤ maxLen ∧ a0.length * 16 ≤ 140737488351232 ∧ ∀ z ∈ a0, z.size ≤ 140737488351232) → ∃ k, wharflaw12_FlapReads.f k a0 = some true := by
  intro l hl
  obtain ⟨K, hK⟩ : ∃ K : Nat, K = 3000000 := ⟨_, rfl⟩
  refine ⟨K, ?_⟩
  obtain ⟨b, hb, hs⟩ := small_some l hl.2.2 K (by omega)
  unfold wharflaw12_FlapReads.f
  rw [hb, Option.bind_some]
  cases b with
  | false => rfl
  | true =>
    obtain ⟨_, h2⟩ := hs rfl
    rw [if_pos rfl]
    exact reads_go K (by omega) l flapNew [] ⟨#[]⟩ rfl (by show 0 + tot l ≤ 30000; omega)
end Go.Proofs.Ythncdeeakhilfaa.Pure
