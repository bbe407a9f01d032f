-- written by hp.py for this claim, out of the kit's printer and texts of my own
import Derived.Test.YtlcnhmigbdaajaaHx0
import Derived.Test.YtlcnhmigbdaajaaHx20001
import Derived.Test.YtlcnhmigbdaajaaHx20002
import Derived.Lib.Hide
import Derived.Deep.LoopGhost
import Derived.Deep.DeepCutAuto
namespace Go.Proofs.Ytlcnhmigbdaajaa.H
open Go.RowKit Go.Proofs.YtlcnhmigbdaajaaW.PrintWords Go.Proofs.YtlcnhmigbdaajaaW.PrintLast Go.Proofs.YtlcnhmigbdaajaaW.PrintMore
attribute [local go_sem] max2_int min2_int max_two min_two max_three min_three max_four min_four   -- for this text's walks alone
set_option linter.unusedVariables false
set_option linter.unusedSimpArgs false

/-- some answer -/
def SomeBool (e : Ending) : Prop := ∃ b : Bool, e = .returned (.bool b)
/-- the lesser of two kids -/
def alKid (n : Nat) (l : List S58) (i : Nat) : Nat :=
  if 2 * i + 2 < n then match l[2 * i + 2]?, l[2 * i + 1]? with
    | some x, some y => if alLess x y then 2 * i + 2 else 2 * i + 1
    | _, _ => 2 * i + 1
  else 2 * i + 1
/-- one goes down -/
def alDown (n : Nat) : Nat → List S58 → Nat → List S58
  | 0, l, _ => l
  | k + 1, l, i => if 2 * i + 1 < n then match l[alKid n l i]?, l[i]? with
      | some x, some y => if alLess x y then alDown n k ((l.set i x).set (alKid n l i) y) (alKid n l i) else l
      | _, _ => l
    else l
theorem alKid_lt (n : Nat) (l : List S58) (i : Nat) (h : 2 * i + 1 < n) : i < alKid n l i ∧ alKid n l i < n := by
  unfold alKid
  split
  · split
    · split <;> omega
    · omega
  · omega
theorem alDown_fuel (n : Nat) : ∀ (k : Nat) (l : List S58) (i : Nat), n - i ≤ k → alDown n k l i = alDown n (n - i) l i
  | 0, l, i, h => by rw [show n - i = 0 from by omega]
  | k + 1, l, i, h => by
    by_cases c : 2 * i + 1 < n
    · obtain ⟨m, hm⟩ : ∃ m, n - i = m + 1 := ⟨n - i - 1, by omega⟩
      have hk := alKid_lt n l i c
      rw [hm, alDown, alDown, if_pos c, if_pos c]
      cases hx : l[alKid n l i]? with
      | none => rfl
      | some x =>
        cases hy : l[i]? with
        | none => rfl
        | some y =>
          by_cases c2 : alLess x y = true
          · simp only [if_pos c2]
            rw [alDown_fuel n k _ _ (by omega), alDown_fuel n m _ _ (by omega)]
          · simp only [if_neg c2]
    · rw [alDown, if_neg c]
      cases hm : n - i with
      | zero => rfl
      | succ m => rw [alDown, if_neg c]
  termination_by k => k
set_option maxRecDepth 100000 in
set_option maxHeartbeats 1000000 in
theorem heapDown_calls (B g r c m n : Nat) (i0 : Nat) (l : List S58) (last : Int) (W : World) (h : TimAt B W g l last (.slice (some ⟨r, 0, none⟩) m c)) (hm : l.length = m) (hn : n ≤ m) (hi0 : i0 ≤ 1000000) (hB : m ≤ 1000000) :
    Calls Try.prog 32 #[.iface 56 (.pointer (some ⟨g, 0, none⟩)), .int .i64 i0, .int .i64 n] W fun e W' => SomeBool e ∧ TimAt B W' g (alDown n (n - i0) l i0) last (.slice (some ⟨r, 0, none⟩) m c) ∧ TimK B W W' := by
  have q0 := h.cell
  have HA := Aside0.mk h
  have HN := Aside0.mk hm
  clear h hm
  generalize hR : alDown n (n - i0) l i0 = R
  have HR := Aside0.mk hR
  clear hR
  go_enter Try.func32, Try.ntmps32
  go_wp2_with fail
  go_loopg [7] (n - i0 + 1) (fun k p wr => ∃ (i : Nat) (l' : List S58), n - i < k ∧ p = .int .i64 i ∧ i ≤ 1000000 ∧ Aside0 (l'.length = m ∧ alDown n (n - i) l' i = R ∧ TimAt B wr g l' last (.slice (some ⟨r, 0, none⟩) m c) ∧ TimK B W wr))
  case atStart => exact ⟨i0, l, by omega, rfl, hi0, ⟨HN.out, HR.out, HA.out, TimK.refl _ _⟩⟩
  case round =>
    obtain ⟨i, l', hi, rfl, hi2, HH⟩ := hrel
    have q1 := HH.out.2.2.1.cell
    clear HA HN HR q0
    by_cases c1 : 2 * i + 1 < n
    · have hkid := alKid_lt n l' i c1
      have HK := Aside0.mk hkid
      clear hkid
      obtain ⟨a, ha⟩ : ∃ a, l'[i]? = some a := ⟨_, List.getElem?_eq_getElem (by have := HH.out.1; omega)⟩
      obtain ⟨y, hy⟩ : ∃ y, l'[2 * i + 1]? = some y := ⟨_, List.getElem?_eq_getElem (by have := HH.out.1; omega)⟩
      have HX := Aside0.mk (And.intro ha hy)
      clear ha hy
      have hj1 : (2 * (i : Int) + 1).toNat = 2 * i + 1 := by omega
      have hj2 : (2 * (i : Int) + 1 + 1).toNat = 2 * i + 2 := by omega
      have HJ := Aside0.mk (And.intro hj1 hj2)
      clear hj1 hj2
      go_upto_region 6 with (fail)

      go_cut [33] (fun v wc => ∃ bb : Bool, v = .bool bb ∧ Aside0 (alKid n l' i = if bb then 2 * i + 2 else 2 * i + 1) ∧ Aside0 (Below wr.heap.size wr wc))
      case first =>
        by_cases c2 : 2 * i + 2 < n
        · obtain ⟨x, hx⟩ : ∃ x, l'[2 * i + 2]? = some x := ⟨_, List.getElem?_eq_getElem (by have := HH.out.1; omega)⟩
          have hm := methLess ⟨g, 0, none⟩ _ wr q1
          have kL := alLess_calls B r c m (2 * (i : Int) + 1 + 1) (2 * (i : Int) + 1) l' x y wr HH.out.2.2.1.own HH.out.1 (by omega) (by omega) (by rw [HJ.out.2]; exact hx) (by rw [HJ.out.1]; exact HX.out.2)
          have hk : alKid n l' i = if alLess x y then 2 * i + 2 else 2 * i + 1 := by
            unfold alKid
            rw [if_pos c2, hx, HX.out.2]
          have HQ := Aside0.mk hk
          have d : decide (2 * (i : Int) + 1 + 1 < (n : Int)) = true := decide_eq_true (by omega)
          generalize alLess x y = bb at kL HQ
          clear hk hx c1 hi hi2 hi0 hB hn c2
          go_wp2_with (go_at_call 50; refine kL.mono ?_; rintro e w' ⟨rfl, hb⟩)
          go_meet
          case rel => exact ⟨bb, rfl, HQ, ⟨hb⟩⟩
        · have d : decide (2 * (i : Int) + 1 + 1 < (n : Int)) = false := decide_eq_false (by omega)
          have HQ := Aside0.mk (show alKid n l' i = 2 * i + 1 from if_neg c2)
          clear c1 hi hi2 hi0 hB hn c2 q1
          go_wp2_with fail
          go_meet
          case rel => exact ⟨false, rfl, HQ, ⟨Below.refl _ _⟩⟩
      case rest =>
        obtain ⟨bb, rfl, HQ, HB1⟩ := hcut
        obtain ⟨j, hj⟩ : ∃ j, alKid n l' i = j := ⟨_, rfl⟩
        rw [hj] at HQ HK
        obtain ⟨b, hb⟩ : ∃ b, l'[j]? = some b := ⟨_, List.getElem?_eq_getElem (by have := HH.out.1; have := HK.out; omega)⟩
        have HT1 := Aside0.mk (HH.out.2.2.1.below HB1.out)
        have HK1 := Aside0.mk (HH.out.2.2.2.trans (TimK.of_below HB1.out))
        have hu : alDown n (n - i) l' i = if alLess b a then alDown n (n - i - 1) ((l'.set i b).set j a) j else l' := by
          obtain ⟨k, hk⟩ : ∃ k, n - i = k + 1 := ⟨n - i - 1, by omega⟩
          rw [hk, alDown, if_pos c1, hj, hb, HX.out.1]
          rfl
        have HU := Aside0.mk hu
        have HY := Aside0.mk hb
        have HJ' := Aside0.mk hj
        clear hu hb hj
        have q2 := HT1.out.cell
        have hm := methLess ⟨g, 0, none⟩ _ wc q2
        have kL := alLess_calls B r c m (j : Int) (i : Int) l' b a wc HT1.out.own HH.out.1 (by omega) (by omega) (by simpa using HY.out) (by simpa using HX.out.1)
        have e1 : ((2 * i + 2 : Nat) : Int) = 2 * (i : Int) + 1 + 1 := by omega
        have e2 : ((2 * i + 1 : Nat) : Int) = 2 * (i : Int) + 1 := by omega
        go_upto_if 33 with (fail)
        go_cut [9] (fun v wx => v = .int .i64 j ∧ wx = wc)
        case first =>
          cases bb with
          | true =>
            have hj := HQ.out
            simp only [if_true] at hj
            subst hj
            clear e1 e2 kL hm q2 HU
            go_wp2_with fail
            go_meet
            case rel => exact ⟨congrArg (Value.int .i64) (by omega), rfl⟩
          | false =>
            have hj := HQ.out
            simp only [Bool.false_eq_true, if_false] at hj
            subst hj
            clear e1 e2 kL hm q2 HU
            go_wp2_with fail
            go_meet
            case rel => exact ⟨congrArg (Value.int .i64) (by omega), rfl⟩
        case rest =>
          obtain ⟨rfl, rfl⟩ := hcut
          have HR2 := Aside0.mk (And.intro HH.out.1 HH.out.2.1)
          have HX2 := Aside0.mk (And.intro HX.out.1 HY.out)
          clear e1 e2 HB1 HQ HJ HX HY HH HJ'
          cases hb : alLess b a with
          | false =>
            rw [hb] at kL
            have hf : R = l' := by rw [← HR2.out.2, HU.out, hb]; rfl
            have HF := Aside0.mk hf
            clear c1 HU hf hb HK hi hi2
            go_wp2_with (go_at_call 50; refine kL.mono ?_; rintro e w' ⟨rfl, hb⟩)
            go_ret
            exact ⟨⟨_, rfl⟩, by rw [HF.out]; exact HT1.out.below hb, HK1.out.trans (TimK.of_below hb)⟩
          | true =>
            rw [hb] at kL
            have hji := HK.out
            have hf : alDown n (n - j) ((l'.set i b).set j a) j = R := by rw [← HR2.out.2, HU.out, hb, if_pos rfl]; exact (alDown_fuel n _ _ _ (by omega)).symm
            have HF := Aside0.mk hf
            clear HU hf hb HK q1
            go_wp2_with (first | (go_at_call 50; refine kL.mono ?_; rintro e w' ⟨rfl, hb⟩; have HT2 := Aside0.mk (HT1.out.below hb); have HK2 := Aside0.mk (HK1.out.trans (TimK.of_below hb)); clear hb hm kL q2; have q3 := HT2.out.cell; have hm2 := methSwap ⟨g, 0, none⟩ _ w' q3; have kS := alSwap_calls B r c m i j l' a b w' HT2.out.own HR2.out.1 (by omega) (by omega) (by simpa using HX2.out.1) (by simpa using HX2.out.2)) | (go_at_call 51; refine kS.mono ?_; rintro e w2 ⟨rfl, ha, hg⟩; have HW := Aside0.mk (HT2.out.wrote ha hg); clear ha hg kS hm2 q3))
            go_roundg (n - i)
            case measure => omega
            case rel => exact ⟨j, _, by omega, rfl, by omega, ⟨by simpa using HR2.out.1, HF.out, HW.out.1, HK2.out.trans HW.out.2⟩⟩
    · have hf : R = l' := by
        rw [← HH.out.2.1]
        cases hk : n - i with
        | zero => rfl
        | succ k => rw [alDown, if_neg c1]
      have HF := Aside0.mk hf
      have HT := Aside0.mk (And.intro HH.out.2.2.1 HH.out.2.2.2)
      clear hf HH
      go_wp2_with fail
      go_ret
      exact ⟨⟨_, rfl⟩, by rw [HF.out]; exact HT.out.1, HT.out.2⟩

end Go.Proofs.Ytlcnhmigbdaajaa.H
