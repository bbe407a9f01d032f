-- written by hp.py for this claim, out of the kit's printer and texts of my own
import Derived.Test.YtlcnhmigbdaajaaHx0
import Derived.Test.YtlcnhmigbdaajaaHx20001
import Derived.Test.YtlcnhmigbdaajaaHx20001
import Derived.Lib.Hide
import Derived.Deep.LoopGhost
namespace Go.Proofs.Ytlcnhmigbdaajaa.H
open Go.RowKit Go.Proofs.YtlcnhmigbdaajaaW.PrintWords Go.Proofs.YtlcnhmigbdaajaaW.PrintLast Go.Proofs.YtlcnhmigbdaajaaW.PrintMore
attribute [local go_sem] max2_int min2_int max_two min_two max_three min_three max_four min_four   -- for this text's walks alone
set_option linter.unusedVariables false
set_option linter.unusedSimpArgs false


set_option maxRecDepth 100000 in
set_option maxHeartbeats 1000000 in
theorem heapUp_calls (B g r c n : Nat) (j : Nat) (l : List S58) (last : Int) (W : World) (h : TimAt B W g l last (.slice (some ⟨r, 0, none⟩) n c)) (hn : l.length = n) (hj : j < n) (hB : n < 9000000000000000000) :
    Calls Try.prog 30 #[.iface 56 (.pointer (some ⟨g, 0, none⟩)), .int .i64 j] W fun e W' => e = .returned (.tuple #[]) ∧ TimAt B W' g (alUp (j + 1) l j) last (.slice (some ⟨r, 0, none⟩) n c) ∧ TimK B W W' := by
  have q0 := h.cell
  have HA := Aside0.mk h
  have HN := Aside0.mk hn
  clear h hn
  generalize hR : alUp (j + 1) l j = R
  have HR := Aside0.mk hR
  clear hR
  go_enter Try.func30, Try.ntmps30
  go_wp2_with fail
  go_loopg [1] (j + 1) (fun k p wr => ∃ (i : Nat) (l' : List S58), i < k ∧ p = .int .i64 i ∧ i < n ∧ Aside0 (l'.length = n ∧ alUp (i + 1) l' i = R ∧ TimAt B wr g l' last (.slice (some ⟨r, 0, none⟩) n c) ∧ TimK B W wr))
  case atStart => exact ⟨j, l, by omega, rfl, hj, ⟨HN.out, HR.out, HA.out, TimK.refl _ _⟩⟩
  case round =>
    obtain ⟨i, l', hi, rfl, hi2, HH⟩ := hrel
    have q1 := HH.out.2.2.1.cell
    clear HA HN HR q0
    go_upto_region 1 with (fail)

    rw [alHalf' i]
    have hle : (i - 1) / 2 ≤ i := by omega
    obtain ⟨p, hp⟩ : ∃ p, p = (i - 1) / 2 := ⟨_, rfl⟩
    rw [← hp] at hle ⊢
    have HP := Aside0.mk hp
    have hpn : p < n := by omega
    clear hp
    by_cases c1 : p = i
    · have d1 : ((p : Int) == (i : Int)) = true := by simp [c1]
      have d2 : (p == i) = true := by simp [c1]
      have hf : TimAt B wr g R last (.slice (some ⟨r, 0, none⟩) n c) ∧ TimK B W wr := by
        refine ⟨?_, HH.out.2.2.2⟩
        have e := HH.out.2.1
        rw [alUp] at e
        rw [show (i - 1) / 2 = i from by rw [← HP.out]; exact c1] at e
        cases hx : l'[i]? with
        | none => rw [hx] at e; rw [← e]; exact HH.out.2.2.1
        | some x => rw [hx] at e; simp only [if_true] at e; rw [← e]; exact HH.out.2.2.1
      have HF := Aside0.mk hf
      clear c1 hi hle hpn HP HH hf
      go_wp2_with fail
      go_end0
      exact ⟨rfl, HF.out⟩
    · have d1 : ((p : Int) == (i : Int)) = false := by simp; omega
      have d2 : (p == i) = false := by simp; omega
      have hm := methLess ⟨g, 0, none⟩ _ wr q1
      obtain ⟨x, hx⟩ : ∃ x, l'[i]? = some x := ⟨_, List.getElem?_eq_getElem (by have := HH.out.1; omega)⟩
      obtain ⟨y, hy⟩ : ∃ y, l'[p]? = some y := ⟨_, List.getElem?_eq_getElem (by have := HH.out.1; omega)⟩
      have kL := alLess_calls B r c n i p l' x y wr HH.out.2.2.1.own HH.out.1 (by omega) (by omega) (by simpa using hx) (by simpa using hy)
      have hu : alUp (i + 1) l' i = if alLess x y then alUp i ((l'.set p x).set i y) p else l' := by
        rw [alUp, ← HP.out, hx, hy]
        simp only [if_neg c1]
      have HU := Aside0.mk hu
      have HX := Aside0.mk (And.intro hx hy)
      clear hu hx hy
      cases hb : alLess x y with
      | false =>
        rw [hb] at kL
        have hf : R = l' := by rw [← HH.out.2.1, HU.out, hb]; rfl
        have HF := Aside0.mk hf
        clear c1 hi hle hpn HP HU HX hf hb
        go_wp2_with (go_at_call 50; refine kL.mono ?_; rintro e w' ⟨rfl, hb⟩)
        go_end0
        exact ⟨rfl, by rw [HF.out]; exact HH.out.2.2.1.below hb, HH.out.2.2.2.trans (TimK.of_below hb)⟩
      | true =>
        rw [hb] at kL
        have hf : alUp (p + 1) ((l'.set p x).set i y) p = R := by rw [← HH.out.2.1, HU.out, hb, if_pos rfl]; exact (alUp_fuel _ _ _ (by omega)).symm
        have HF := Aside0.mk hf
        have hpi : p < i := by omega
        clear c1 hle HP HU hf hb
        go_wp2_with (first | (go_at_call 50; refine kL.mono ?_; rintro e w' ⟨rfl, hb⟩; have HT2 := Aside0.mk (HH.out.2.2.1.below hb); have HK2 := Aside0.mk (HH.out.2.2.2.trans (TimK.of_below hb)); clear hb hm kL q1; have q2 := HT2.out.cell; have hm2 := methSwap ⟨g, 0, none⟩ _ w' q2; have kS := alSwap_calls B r c n p i l' y x w' HT2.out.own HH.out.1 (by omega) (by omega) (by simpa using HX.out.2) (by simpa using HX.out.1)) | (go_at_call 51; refine kS.mono ?_; rintro e w2 ⟨rfl, ha, hg⟩; have HW := Aside0.mk (HT2.out.wrote ha hg); clear ha hg kS hm2 q2))
        go_roundg i
        case measure => omega
        case rel => exact ⟨p, _, by omega, rfl, by omega, ⟨by simpa using HH.out.1, HF.out, HW.out.1, HK2.out.trans HW.out.2⟩⟩

end Go.Proofs.Ytlcnhmigbdaajaa.H
