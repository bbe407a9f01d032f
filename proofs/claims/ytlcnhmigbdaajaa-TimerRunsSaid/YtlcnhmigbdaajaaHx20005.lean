-- written by hp.py for this claim, out of the kit's printer and texts of my own
import Derived.Test.YtlcnhmigbdaajaaHx0
import Derived.Test.YtlcnhmigbdaajaaHx20001
import Derived.Test.YtlcnhmigbdaajaaHx20002
import Derived.Test.YtlcnhmigbdaajaaHx20003
import Derived.Test.YtlcnhmigbdaajaaHx20004
import Derived.Test.YtlcnhmigbdaajaaHx20004
import Derived.Lib.Hide
import Derived.Deep.LoopGhost
import Derived.Deep.DeepCutAuto
namespace Go.Proofs.Ytlcnhmigbdaajaa.H
open Go.RowKit Go.Proofs.YtlcnhmigbdaajaaW.PrintWords Go.Proofs.YtlcnhmigbdaajaaW.PrintLast Go.Proofs.YtlcnhmigbdaajaaW.PrintMore
attribute [local go_sem] max2_int min2_int max_two min_two max_three min_three max_four min_four   -- for this text's walks alone
set_option linter.unusedVariables false
set_option linter.unusedSimpArgs false

theorem alLen_calls (A : Option Addr) (n c : Nat) (W : World) : Calls Try.prog 49 #[.slice A n c] W fun e W' => e = .returned (.int .i64 n) ∧ W = W' := by
  go_enter Try.func49, Try.ntmps49
  go_wp2
  go_ret
  exact ⟨rfl, rfl⟩
theorem alUp_length : ∀ (k : Nat) (l : List S58) (j : Nat), (alUp k l j).length = l.length
  | 0, l, j => rfl
  | k + 1, l, j => by
    rw [alUp]
    split
    · split
      · rfl
      · split
        · rw [alUp_length k]; simp
        · rfl
    · rfl
theorem alDown_length (n : Nat) : ∀ (k : Nat) (l : List S58) (j : Nat), (alDown n k l j).length = l.length
  | 0, l, j => rfl
  | k + 1, l, j => by
    rw [alDown]
    split
    · split
      · split
        · rw [alDown_length n k]; simp
        · rfl
      · rfl
    · rfl
/-- one more, in its place -/
def alPushed (l : List S58) (x : S58) : List S58 := alUp (l.length + 1) (l ++ [x]) l.length
theorem alPushed_length (l : List S58) (x : S58) : (alPushed l x).length = l.length + 1 := by
  rw [alPushed, alUp_length]; simp
set_option maxRecDepth 100000 in
set_option maxHeartbeats 1000000 in
theorem heapPush_calls (B g : Nat) (l : List S58) (last : Int) (v : Value) (x : S58) (W : World) (h : TimAt B W g l last v) (hl : l.length ≤ 1000000) (hB : B ≤ W.heap.size) :
    Calls Try.prog 23 #[.iface 56 (.pointer (some ⟨g, 0, none⟩)), .iface 58 (.agg #[.int .i64 x.f0, .int .i64 x.f1, .string x.f2])] W (TimPushed B g W (alPushed l x) last) := by
  have kP := alPush_calls B g l last v x W h hl hB
  have hm := methPush ⟨g, 0, none⟩ W
  have HL := Aside0.mk hl
  have HE := Aside0.mk (show (l ++ [x]).length = l.length + 1 by simp)
  clear h hB
  go_enter Try.func23, Try.ntmps23
  go_wp2_with (first | (go_at_call 56; refine kP.mono ?_; rintro e w1 ⟨rfl, r, c, hT, hK⟩; have HT := Aside0.mk hT; have HK := Aside0.mk hK; have q1 := HT.out.cell; rw [HE.out] at q1; have hm2 := methLen ⟨g, 0, none⟩ _ w1 q1; clear kP hm hT hK) | (go_at_call 49; refine (alLen_calls _ _ _ _).mono ?_; rintro e w2 ⟨rfl, rfl⟩; clear hm2) | (go_at_call 30; refine (heapUp_calls B g r c (l ++ [x]).length l.length (l ++ [x]) last w1 HT.out rfl (by rw [HE.out]; omega) (by rw [HE.out]; have := HL.out; omega)).mono ?_; rintro e w2 ⟨rfl, hT2, hK2⟩; have HT2 := Aside0.mk hT2; have HK2 := Aside0.mk hK2; clear hT2 hK2))
  go_end0
  refine ⟨rfl, r, c, ?_, HK.out.trans HK2.out⟩
  rw [alPushed_length, ← HE.out]
  exact HT2.out
/-- all in their places -/
def alInitN (n : Nat) : Nat → List S58 → List S58
  | 0, l => l
  | k + 1, l => alInitN n k (alDown n (n - k) l k)
def alInit (l : List S58) : List S58 := alInitN l.length (l.length / 2) l
set_option maxRecDepth 100000 in
set_option maxHeartbeats 1000000 in
theorem heapPop_calls (B g r n c : Nat) (l l3 : List S58) (last : Int) (a b : S58) (W : World) (h : TimAt B W g l last (.slice (some ⟨r, 0, none⟩) (n + 1) c)) (hn : l.length = n + 1) (hl : n ≤ 1000000 - 1)
    (ha : l[0]? = some a) (hb : l[n]? = some b) (hd : alDown n n ((l.set 0 b).set n a) 0 = l3 ++ [a]) :
    Calls Try.prog 27 #[.iface 56 (.pointer (some ⟨g, 0, none⟩))] W fun e W' => e = .returned (.iface 58 (.agg #[.int .i64 a.f0, .int .i64 a.f1, .string a.f2])) ∧ TimAt B W' g l3 last (.slice (some ⟨r, 0, none⟩) l3.length c) ∧ TimK B W W' := by
  have q0 := h.cell
  have hm1 := methLen ⟨g, 0, none⟩ _ W q0
  have hm2 := methSwap ⟨g, 0, none⟩ _ W q0
  have kS := alSwap_calls B r c (n + 1) 0 n l a b W h.own hn (by omega) (by omega) (by simpa using ha) (by simpa using hb)
  have HT := Aside0.mk h
  have HN := Aside0.mk hn
  have HL := Aside0.mk hl
  have HD := Aside0.mk hd
  have hl3 : l3.length = n := by have := congrArg List.length hd; rw [alDown_length] at this; simp at this; omega
  have HL3 := Aside0.mk hl3
  clear h hn ha hb hd hl3
  go_enter Try.func27, Try.ntmps27
  go_wp2_with (first | (go_at_call 49; refine (alLen_calls _ _ _ _).mono ?_; rintro e w2 ⟨rfl, rfl⟩; clear hm1) | (go_at_call 51; refine kS.mono ?_; rintro e w2 ⟨rfl, ho, hg⟩; have HW := Aside0.mk (HT.out.wrote ho hg); clear ho hg kS hm2 q0) | (go_at_call 32; refine (heapDown_calls B g r c (n + 1) n 0 _ last w2 HW.out.1 (by simpa using HN.out) (by omega) (by omega) (by omega)).mono ?_; rintro e w3 ⟨⟨bb, rfl⟩, hT3, hK3⟩; have HT3 := Aside0.mk (show TimAt B w3 g (l3 ++ [a]) last (.slice (some ⟨r, 0, none⟩) (n + 1) c) by rw [← HD.out]; exact hT3); have HK3 := Aside0.mk hK3; have hm3 := methPop ⟨g, 0, none⟩ w3; clear hT3 hK3) | (go_at_call 55; refine (alPop_calls B g r (n + 1) c l3 last a w3 HT3.out (by rw [HL3.out]) (by rw [HL3.out]; omega)).mono ?_; rintro e w4 ⟨rfl, hT4, hK4⟩; have HT4 := Aside0.mk hT4; have HK4 := Aside0.mk hK4; clear hT4 hK4))
  go_ret
  exact ⟨rfl, HT4.out, (HW.out.2.trans HK3.out).trans HK4.out⟩
set_option maxRecDepth 100000 in
set_option maxHeartbeats 1000000 in
theorem heapInit_calls (B g : Nat) (l : List S58) (last : Int) (v : Value) (W : World) (h : TimAt B W g l last v) (hl : l.length ≤ 1000000) :
    Calls Try.prog 26 #[.iface 56 (.pointer (some ⟨g, 0, none⟩))] W fun e W' => e = .returned (.tuple #[]) ∧ TimAt B W' g (alInit l) last v ∧ TimK B W W' := by
  obtain ⟨A, c, rfl⟩ := own_slice h.own
  have q0 := h.cell
  have hm1 := methLen ⟨g, 0, none⟩ _ W q0
  have HT := Aside0.mk h
  obtain ⟨n, hn⟩ : ∃ n, l.length = n := ⟨_, rfl⟩
  obtain ⟨R, hR⟩ : ∃ R, alInit l = R := ⟨_, rfl⟩
  have hR' := hR
  unfold alInit at hR'
  rw [hn] at hR' hl hm1 q0 ⊢
  rw [hR]
  have HR := Aside0.mk hR'
  have HN := Aside0.mk hn
  clear h hR hR' hn
  go_enter Try.func26, Try.ntmps26
  go_wp2_with (go_at_call 49; refine (alLen_calls _ _ _ _).mono ?_; rintro e w2 ⟨rfl, rfl⟩; clear hm1)
  go_loopg [3] (n / 2 + 1) (fun k p wr => ∃ (i : Nat) (l' : List S58), i < k ∧ p = .int .i64 ((i : Int) - 1) ∧ i ≤ n / 2 ∧ Aside0 (l'.length = n ∧ alInitN n i l' = R ∧ TimAt B wr g l' last (.slice A n c) ∧ TimK B W wr))
  case atStart => exact ⟨n / 2, l, by omega, by rw [Int.natCast_ediv]; rfl, Nat.le_refl _, ⟨HN.out, HR.out, by rw [← HN.out]; exact HT.out, TimK.refl _ _⟩⟩
  case round =>
    obtain ⟨i, l', hi, rfl, hi2, HH⟩ := hrel
    clear HT HR HN q0
    cases i with
    | zero =>
      go_wp2_with fail
      go_end0
      exact ⟨rfl, by rw [← HH.out.2.1]; exact HH.out.2.2.1, HH.out.2.2.2⟩
    | succ i =>
      have hA : ∃ r, A = some ⟨r, 0, none⟩ := by
        have ho := HH.out.2.2.1.own
        rcases ho.2 with ⟨h2, h3⟩ | ⟨g', cap, cur, he, _⟩
        · have := HH.out.1; omega
        · injection he with e1 e2 e3
          exact ⟨g', e1⟩
      obtain ⟨r, rfl⟩ := hA
      have e1 : ((i + 1 : Nat) : Int) - 1 = (i : Int) := by omega
      rw [e1]
      clear e1
      go_wp2_with (go_at_call 32; refine (heapDown_calls B g r c n n i l' last wr HH.out.2.2.1 HH.out.1 (Nat.le_refl _) (by omega) hl).mono ?_; rintro e w3 ⟨⟨bb, rfl⟩, hT3, hK3⟩; have HT3 := Aside0.mk hT3; have HK3 := Aside0.mk hK3; clear hT3 hK3)
      go_roundg (i + 1)
      case measure => omega
      case rel => exact ⟨i, _, by omega, rfl, by omega, ⟨by rw [alDown_length]; exact HH.out.1, HH.out.2.1, HT3.out, HH.out.2.2.2.trans HK3.out⟩⟩

end Go.Proofs.Ytlcnhmigbdaajaa.H
