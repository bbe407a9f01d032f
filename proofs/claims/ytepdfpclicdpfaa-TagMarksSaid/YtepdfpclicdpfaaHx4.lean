-- written by hp.py for this claim, out of the kit's printer and texts of my own
import Derived.Test.YtepdfpclicdpfaaHx0
import Derived.Test.YtepdfpclicdpfaaHx8
import Derived.Test.YtepdfpclicdpfaaHx11
namespace Go.Proofs.Ytepdfpclicdpfaa.H
open Go.RowKit Go.Proofs.YtepdfpclicdpfaaW.PrintWords Go.Proofs.YtepdfpclicdpfaaW.PrintLast Go.Proofs.YtepdfpclicdpfaaW.PrintMore
attribute [local go_sem] max2_int min2_int max_two min_two max_three min_three max_four min_four   -- for this text's walks alone
set_option linter.unusedVariables false
set_option linter.unusedSimpArgs false

/-! ### wharflaw05_TagMarks: function 4 -/
mutual
def wharflaw05_TagMarks.l0 : Nat → ByteArray → ByteArray → ByteArray → Bool → Int → Option (Bool)
  | 0, _, _, _, _, _ => none
  | k + 1, x0, x1, x5, x6, x7 => if x7 < (x0.size : Int) then (if 0 ≤ x7 then (if x6 = true then (wharflaw05_TagMarks.l0 k x0 x1 x5 true (wrap64 (x7 + 1))) else (if (bt x0 x7) = 38 then (wharflaw05_TagMarks.l0 k x0 x1 x5 true (wrap64 (x7 + 1))) else (if (bt x0 x7) = 60 then (wharflaw05_TagMarks.l0 k x0 x1 x5 true (wrap64 (x7 + 1))) else (if (bt x0 x7) = 62 then (wharflaw05_TagMarks.l0 k x0 x1 x5 true (wrap64 (x7 + 1))) else (if (bt x0 x7) = 39 then (wharflaw05_TagMarks.l0 k x0 x1 x5 true (wrap64 (x7 + 1))) else (if (bt x0 x7) = 34 then (wharflaw05_TagMarks.l0 k x0 x1 x5 true (wrap64 (x7 + 1))) else (if (bt x0 x7) = 9 then (wharflaw05_TagMarks.l0 k x0 x1 x5 true (wrap64 (x7 + 1))) else (if (bt x0 x7) = 10 then (wharflaw05_TagMarks.l0 k x0 x1 x5 true (wrap64 (x7 + 1))) else (wharflaw05_TagMarks.l0 k x0 x1 x5 ((bt x0 x7) == 13) (wrap64 (x7 + 1))))))))))) else (none)) else (wharflaw05_TagMarks.l1 k x0 x1 x5 x6 0)
def wharflaw05_TagMarks.l1 : Nat → ByteArray → ByteArray → ByteArray → Bool → Int → Option (Bool)
  | 0, _, _, _, _, _ => none
  | k + 1, x0, x1, x5, x6, x9 => if x9 < (x5.size : Int) then (if 0 ≤ x9 then (if (bt x5 x9) = 60 then (some false) else (if (bt x5 x9) = 62 then (some false) else (if (bt x5 x9) = 39 then (some false) else (if (bt x5 x9) = 34 then (some false) else (if (bt x5 x9) = 9 then (some false) else (if (bt x5 x9) = 10 then (some false) else (if (bt x5 x9) = 13 then (some false) else (wharflaw05_TagMarks.l1 k x0 x1 x5 x6 (wrap64 (x9 + 1)))))))))) else (none)) else (if ((x5.toList == x0.toList) == (!x6)) = true then (if x0.size + x1.size ≤ 9223372036854775807 then ((tag_Quote.f (x0 ++ x1)).bind fun t152 => ((tag_Quote.f x1).bind fun t153 => (if x5.size + t153.size ≤ 9223372036854775807 then (if t152.toList = (x5 ++ t153).toList then ((wharflaw05_live.f).bind fun t154 => (some t154)) else (some false)) else (none)))) else (none)) else (some false))
end
def wharflaw05_TagMarks.f (k : Nat) (a0 : ByteArray) (a1 : ByteArray) : Option (Bool) := if (wrap64 ((a0.size : Int) + (a1.size : Int))) > 20000 then ((wharflaw05_live.f).bind fun t150 => (some t150)) else ((tag_Quote.f a0).bind fun t151 => (wharflaw05_TagMarks.l0 k a0 a1 t151 false 0))
theorem wharflaw05_TagMarks.mono_l : ∀ k, (∀ y0 y1 y2 y3 y4, LeO (wharflaw05_TagMarks.l0 k y0 y1 y2 y3 y4) (wharflaw05_TagMarks.l0 (k + 1) y0 y1 y2 y3 y4)) ∧ (∀ y0 y1 y2 y3 y4, LeO (wharflaw05_TagMarks.l1 k y0 y1 y2 y3 y4) (wharflaw05_TagMarks.l1 (k + 1) y0 y1 y2 y3 y4))
  | 0 => ⟨fun _ _ _ _ _ r h => by simp [wharflaw05_TagMarks.l0] at h, fun _ _ _ _ _ r h => by simp [wharflaw05_TagMarks.l1] at h⟩
  | k + 1 => by
    obtain ⟨ih0, ih1⟩ := wharflaw05_TagMarks.mono_l k
    refine ⟨?_, ?_⟩
    · intro y0 y1 y2 y3 y4
      unfold wharflaw05_TagMarks.l0
      repeat' first
      | (with_reducible exact ih0 _ _ _ _ _)
      | (with_reducible exact ih1 _ _ _ _ _)
      | (with_reducible exact LeO.refl _)
      | (with_reducible exact LeO.none _)
      | (with_reducible refine LeO.ite ?_ ?_)
      | (with_reducible refine LeO.bind ?_ (fun _ => ?_))
      | exact ih0 _ _ _ _ _
      | exact ih1 _ _ _ _ _
      | exact LeO.none _
      | refine LeO.ite ?_ ?_
      | refine LeO.bind ?_ (fun _ => ?_)
    · intro y0 y1 y2 y3 y4
      unfold wharflaw05_TagMarks.l1
      repeat' first
      | (with_reducible exact ih0 _ _ _ _ _)
      | (with_reducible exact ih1 _ _ _ _ _)
      | (with_reducible exact LeO.refl _)
      | (with_reducible exact LeO.none _)
      | (with_reducible refine LeO.ite ?_ ?_)
      | (with_reducible refine LeO.bind ?_ (fun _ => ?_))
      | exact ih0 _ _ _ _ _
      | exact ih1 _ _ _ _ _
      | exact LeO.none _
      | refine LeO.ite ?_ ?_
      | refine LeO.bind ?_ (fun _ => ?_)
theorem wharflaw05_TagMarks.mono : ∀ a0 a1 k, LeO (wharflaw05_TagMarks.f k a0 a1) (wharflaw05_TagMarks.f (k + 1) a0 a1) := by
  intro a0 a1 k
  obtain ⟨ih0, ih1⟩ := wharflaw05_TagMarks.mono_l k
  unfold wharflaw05_TagMarks.f
  repeat' first
      | (with_reducible exact ih0 _ _ _ _ _)
      | (with_reducible exact ih1 _ _ _ _ _)
      | (with_reducible exact LeO.refl _)
      | (with_reducible exact LeO.none _)
      | (with_reducible refine LeO.ite ?_ ?_)
      | (with_reducible refine LeO.bind ?_ (fun _ => ?_))
      | exact ih0 _ _ _ _ _
      | exact ih1 _ _ _ _ _
      | exact LeO.none _
      | refine LeO.ite ?_ ?_
      | refine LeO.bind ?_ (fun _ => ?_)
set_option maxHeartbeats 8000000 in
set_option maxRecDepth 100000 in
theorem wharflaw05_TagMarks.callsT (k : Nat) (a0 : ByteArray) (a1 : ByteArray) (r : Bool) (w : World) (HT_ : Aside0 (r = true)) (h : wharflaw05_TagMarks.f k a0 a1 = some r) :
    Calls Try.prog 4 #[.string a0, .string a1] w fun e w' => e = .returned (.bool r) ∧ Below w.heap.size w w' := by
  have HB := Aside0.mk (Below.refl w.heap.size w)
  have H : (if (wrap64 ((a0.size : Int) + (a1.size : Int))) > 20000 then ((wharflaw05_live.f).bind fun t150 => (some t150)) else ((tag_Quote.f a0).bind fun t151 => (wharflaw05_TagMarks.l0 k a0 a1 t151 false 0))) = some r := h
  clear h
  by_cases c3 : (wrap64 ((a0.size : Int) + (a1.size : Int))) > 20000
  · rw [if_pos c3] at H
    have c3b0 : decide (20000 < (wrap64 ((a0.size : Int) + (a1.size : Int)))) = true := decide_eq_true c3
    clear c3
    replace H := Option.bind_eq_some_iff.mp H
    obtain ⟨t150, A40, H⟩ := H
    replace H : (some t150) = some r := H
    have A4 := Aside0.mk A40
    clear A40
    obtain rfl := Option.some.inj H
    go_enter Try.func4, Try.ntmps4
    go_wp2_with (first | ((with_reducible refine gate_callee (f := 8) rfl ?_); refine goesL_ (some 17) rfl rfl Try.func8 (by kernel_rfl) rfl #[] rfl (by (try simp only [List.map_toArray, List.map_cons, List.map_nil]); first | done | rfl | (simp only [List.length_drop, List.length_take]; rfl)) ?_; (with_reducible refine (wharflaw05_live.calls  t150 _ A4.out).mono ?_); rintro e w5 ⟨rfl, hb⟩; refine ⟨_, rfl, ?_⟩; have n0_ := Aside0.mk (below_step (by repeat (first | (with_reducible first | exact HB.out | apply below_alloc | apply pw_below_drewN | apply below_drew1) | exact HB.out)) hb); clear HB; have HB := n0_; clear n0_; (try clear hb); (try clear hb2); (try clear hk); (try clear hi)))
    go_ret
    exact ⟨by first | rfl | (simp [errW_none, errW_some] <;> rfl) | (simp [*, errW_none, errW_some] <;> rfl), by repeat (first | (with_reducible first | exact HB.out | apply below_alloc | apply pw_below_drewN | apply below_drew1) | exact HB.out)⟩
  · rw [if_neg c3] at H
    have c3b0 : decide (20000 < (wrap64 ((a0.size : Int) + (a1.size : Int)))) = false := decide_eq_false c3
    clear c3
    replace H := Option.bind_eq_some_iff.mp H
    obtain ⟨t151, A60, H⟩ := H
    replace H : (wharflaw05_TagMarks.l0 k a0 a1 t151 false 0) = some r := H
    have A6 := Aside0.mk A60
    clear A60
    have H' := Aside0.mk H
    clear H
    go_enter Try.func4, Try.ntmps4
    go_wp2_with (first | ((with_reducible refine gate_callee (f := 11) rfl ?_); refine goesL_ (some 19) rfl rfl Try.func11 (by kernel_rfl) rfl #[.string a0] rfl (by (try simp only [List.map_toArray, List.map_cons, List.map_nil]); first | done | rfl | (simp only [List.length_drop, List.length_take]; rfl)) ?_; (with_reducible refine (tag_Quote.calls a0 t151 _ A6.out).mono ?_); rintro e w7 ⟨rfl, hb⟩; refine ⟨_, rfl, ?_⟩; have n0_ := Aside0.mk (below_step (by repeat (first | (with_reducible first | exact HB.out | apply below_alloc | apply pw_below_drewN | apply below_drew1) | exact HB.out)) hb); clear HB; have HB := n0_; clear n0_; (try clear hb); (try clear hb2); (try clear hk); (try clear hi)))
    go_loopg [6, 7] k (fun kq v6 v7 w' => ∃ (x6_1 : Bool) (x7_1 : Int), v6 = .bool x6_1 ∧ v7 = .int .i64 x7_1 ∧ Aside0 (wharflaw05_TagMarks.l0 kq a0 a1 t151 x6_1 x7_1 = some r) ∧ Aside0 (kq ≤ k) ∧ Aside0 (Below w.heap.size w w'))
    case atStart => exact ⟨(false), (0), (by first | rfl | (simp; done) | (simp [*]; done)), (by first | rfl | (simp; done) | (simp [*]; done)), H', ⟨Nat.le_refl _⟩, ⟨by repeat (first | (with_reducible first | exact HB.out | apply below_alloc | apply pw_below_drewN | apply below_drew1) | exact HB.out)⟩⟩
    case round =>
      clear H'
      try clear c1
      try clear p2
      try clear c3
      try clear c3b0
      try clear c4
      try clear p6
      obtain ⟨x6_1, x7_1, rfl, rfl, HA, HK1, HB⟩ := hrel
      cases gk with
      | zero => exact absurd HA.out (by simp [wharflaw05_TagMarks.l0])
      | succ k1 =>
        have H := HA.out
        clear HA
        simp only [wharflaw05_TagMarks.l0] at H
        by_cases c8 : x7_1 < (a0.size : Int)
        · rw [if_pos c8] at H
          have c8b0 : decide (x7_1 < (a0.size : Int)) = true := decide_eq_true c8
          clear c8
          by_cases c9 : 0 ≤ x7_1
          · rw [if_pos c9] at H
            have c9b0 : decide (0 ≤ x7_1) = true := decide_eq_true c9
            clear c9
            by_cases c11 : x6_1 = true
            · subst c11
              have H1 : (wharflaw05_TagMarks.l0 k1 a0 a1 t151 true (wrap64 (x7_1 + 1))) = some r := by rw [if_pos rfl] at H; exact H
              clear H
              have H := H1
              clear H1
              have H' := Aside0.mk H
              clear H
              have p10 : 0 ≤ (x7_1 : Int) := of_decide_eq_true (by first | (with_reducible assumption) | assumption)
              have q10 : x7_1 < (a0.size : Int) := of_decide_eq_true (by first | (with_reducible assumption) | assumption)
              have hx10 := bt_at a0 x7_1
              replace p10 := eq_true p10
              replace q10 := eq_true q10
              go_wp2
              go_roundg k1
              case measure => have := HK1.out; omega
              case rel => exact ⟨(true), (wrap64 (x7_1 + 1)), (by first | rfl | (simp; done) | (simp [*]; done)), (by first | rfl | (simp; done) | (simp [*]; done)), H', ⟨by have := HK1.out; omega⟩, ⟨by repeat (first | (with_reducible first | exact HB.out | apply below_alloc | apply pw_below_drewN | apply below_drew1) | exact HB.out)⟩⟩
            · replace c11 := Bool.eq_false_iff.mpr c11
              subst c11
              have H1 : (if (bt a0 x7_1) = 38 then (wharflaw05_TagMarks.l0 k1 a0 a1 t151 true (wrap64 (x7_1 + 1))) else (if (bt a0 x7_1) = 60 then (wharflaw05_TagMarks.l0 k1 a0 a1 t151 true (wrap64 (x7_1 + 1))) else (if (bt a0 x7_1) = 62 then (wharflaw05_TagMarks.l0 k1 a0 a1 t151 true (wrap64 (x7_1 + 1))) else (if (bt a0 x7_1) = 39 then (wharflaw05_TagMarks.l0 k1 a0 a1 t151 true (wrap64 (x7_1 + 1))) else (if (bt a0 x7_1) = 34 then (wharflaw05_TagMarks.l0 k1 a0 a1 t151 true (wrap64 (x7_1 + 1))) else (if (bt a0 x7_1) = 9 then (wharflaw05_TagMarks.l0 k1 a0 a1 t151 true (wrap64 (x7_1 + 1))) else (if (bt a0 x7_1) = 10 then (wharflaw05_TagMarks.l0 k1 a0 a1 t151 true (wrap64 (x7_1 + 1))) else (wharflaw05_TagMarks.l0 k1 a0 a1 t151 ((bt a0 x7_1) == 13) (wrap64 (x7_1 + 1)))))))))) = some r := by rw [if_neg (show ¬ (false = true) by decide)] at H; exact H
              clear H
              have H := H1
              clear H1
              by_cases c12 : (bt a0 x7_1) = 38
              · rw [if_pos c12] at H
                have c12b0 : ((bt a0 x7_1) == 38) = true := beq_iff_eq.mpr c12
                have c12b1 : ((bt a0 x7_1) != 38) = false := bne_eq_false_iff_eq.mpr c12
                clear c12
                have H' := Aside0.mk H
                clear H
                have p10 : 0 ≤ (x7_1 : Int) := of_decide_eq_true (by first | (with_reducible assumption) | assumption)
                have q10 : x7_1 < (a0.size : Int) := of_decide_eq_true (by first | (with_reducible assumption) | assumption)
                have hx10 := bt_at a0 x7_1
                replace p10 := eq_true p10
                replace q10 := eq_true q10
                go_wp2
                go_roundg k1
                case measure => have := HK1.out; omega
                case rel => exact ⟨(true), (wrap64 (x7_1 + 1)), (by first | rfl | (simp; done) | (simp [*]; done)), (by first | rfl | (simp; done) | (simp [*]; done)), H', ⟨by have := HK1.out; omega⟩, ⟨by repeat (first | (with_reducible first | exact HB.out | apply below_alloc | apply pw_below_drewN | apply below_drew1) | exact HB.out)⟩⟩
              · rw [if_neg c12] at H
                have c12b0 : ((bt a0 x7_1) == 38) = false := beq_eq_false_iff_ne.mpr c12
                have c12b1 : ((bt a0 x7_1) != 38) = true := bne_iff_ne.mpr c12
                by_cases c13 : (bt a0 x7_1) = 60
                · rw [if_pos c13] at H
                  have c13b0 : ((bt a0 x7_1) == 60) = true := beq_iff_eq.mpr c13
                  have c13b1 : ((bt a0 x7_1) != 60) = false := bne_eq_false_iff_eq.mpr c13
                  clear c13
                  have H' := Aside0.mk H
                  clear H
                  have p10 : 0 ≤ (x7_1 : Int) := of_decide_eq_true (by first | (with_reducible assumption) | assumption)
                  have q10 : x7_1 < (a0.size : Int) := of_decide_eq_true (by first | (with_reducible assumption) | assumption)
                  have hx10 := bt_at a0 x7_1
                  replace p10 := eq_true p10
                  replace q10 := eq_true q10
                  go_wp2
                  go_roundg k1
                  case measure => have := HK1.out; omega
                  case rel => exact ⟨(true), (wrap64 (x7_1 + 1)), (by first | rfl | (simp; done) | (simp [*]; done)), (by first | rfl | (simp; done) | (simp [*]; done)), H', ⟨by have := HK1.out; omega⟩, ⟨by repeat (first | (with_reducible first | exact HB.out | apply below_alloc | apply pw_below_drewN | apply below_drew1) | exact HB.out)⟩⟩
                · rw [if_neg c13] at H
                  have c13b0 : ((bt a0 x7_1) == 60) = false := beq_eq_false_iff_ne.mpr c13
                  have c13b1 : ((bt a0 x7_1) != 60) = true := bne_iff_ne.mpr c13
                  by_cases c14 : (bt a0 x7_1) = 62
                  · rw [if_pos c14] at H
                    have c14b0 : ((bt a0 x7_1) == 62) = true := beq_iff_eq.mpr c14
                    have c14b1 : ((bt a0 x7_1) != 62) = false := bne_eq_false_iff_eq.mpr c14
                    clear c14
                    have H' := Aside0.mk H
                    clear H
                    have p10 : 0 ≤ (x7_1 : Int) := of_decide_eq_true (by first | (with_reducible assumption) | assumption)
                    have q10 : x7_1 < (a0.size : Int) := of_decide_eq_true (by first | (with_reducible assumption) | assumption)
                    have hx10 := bt_at a0 x7_1
                    replace p10 := eq_true p10
                    replace q10 := eq_true q10
                    go_wp2
                    go_roundg k1
                    case measure => have := HK1.out; omega
                    case rel => exact ⟨(true), (wrap64 (x7_1 + 1)), (by first | rfl | (simp; done) | (simp [*]; done)), (by first | rfl | (simp; done) | (simp [*]; done)), H', ⟨by have := HK1.out; omega⟩, ⟨by repeat (first | (with_reducible first | exact HB.out | apply below_alloc | apply pw_below_drewN | apply below_drew1) | exact HB.out)⟩⟩
                  · rw [if_neg c14] at H
                    have c14b0 : ((bt a0 x7_1) == 62) = false := beq_eq_false_iff_ne.mpr c14
                    have c14b1 : ((bt a0 x7_1) != 62) = true := bne_iff_ne.mpr c14
                    by_cases c15 : (bt a0 x7_1) = 39
                    · rw [if_pos c15] at H
                      have c15b0 : ((bt a0 x7_1) == 39) = true := beq_iff_eq.mpr c15
                      have c15b1 : ((bt a0 x7_1) != 39) = false := bne_eq_false_iff_eq.mpr c15
                      clear c15
                      have H' := Aside0.mk H
                      clear H
                      have p10 : 0 ≤ (x7_1 : Int) := of_decide_eq_true (by first | (with_reducible assumption) | assumption)
                      have q10 : x7_1 < (a0.size : Int) := of_decide_eq_true (by first | (with_reducible assumption) | assumption)
                      have hx10 := bt_at a0 x7_1
                      replace p10 := eq_true p10
                      replace q10 := eq_true q10
                      go_wp2
                      go_roundg k1
                      case measure => have := HK1.out; omega
                      case rel => exact ⟨(true), (wrap64 (x7_1 + 1)), (by first | rfl | (simp; done) | (simp [*]; done)), (by first | rfl | (simp; done) | (simp [*]; done)), H', ⟨by have := HK1.out; omega⟩, ⟨by repeat (first | (with_reducible first | exact HB.out | apply below_alloc | apply pw_below_drewN | apply below_drew1) | exact HB.out)⟩⟩
                    · rw [if_neg c15] at H
                      have c15b0 : ((bt a0 x7_1) == 39) = false := beq_eq_false_iff_ne.mpr c15
                      have c15b1 : ((bt a0 x7_1) != 39) = true := bne_iff_ne.mpr c15
                      by_cases c16 : (bt a0 x7_1) = 34
                      · rw [if_pos c16] at H
                        have c16b0 : ((bt a0 x7_1) == 34) = true := beq_iff_eq.mpr c16
                        have c16b1 : ((bt a0 x7_1) != 34) = false := bne_eq_false_iff_eq.mpr c16
                        clear c16
                        have H' := Aside0.mk H
                        clear H
                        have p10 : 0 ≤ (x7_1 : Int) := of_decide_eq_true (by first | (with_reducible assumption) | assumption)
                        have q10 : x7_1 < (a0.size : Int) := of_decide_eq_true (by first | (with_reducible assumption) | assumption)
                        have hx10 := bt_at a0 x7_1
                        replace p10 := eq_true p10
                        replace q10 := eq_true q10
                        go_wp2
                        go_roundg k1
                        case measure => have := HK1.out; omega
                        case rel => exact ⟨(true), (wrap64 (x7_1 + 1)), (by first | rfl | (simp; done) | (simp [*]; done)), (by first | rfl | (simp; done) | (simp [*]; done)), H', ⟨by have := HK1.out; omega⟩, ⟨by repeat (first | (with_reducible first | exact HB.out | apply below_alloc | apply pw_below_drewN | apply below_drew1) | exact HB.out)⟩⟩
                      · rw [if_neg c16] at H
                        have c16b0 : ((bt a0 x7_1) == 34) = false := beq_eq_false_iff_ne.mpr c16
                        have c16b1 : ((bt a0 x7_1) != 34) = true := bne_iff_ne.mpr c16
                        by_cases c17 : (bt a0 x7_1) = 9
                        · rw [if_pos c17] at H
                          have c17b0 : ((bt a0 x7_1) == 9) = true := beq_iff_eq.mpr c17
                          have c17b1 : ((bt a0 x7_1) != 9) = false := bne_eq_false_iff_eq.mpr c17
                          clear c17
                          have H' := Aside0.mk H
                          clear H
                          have p10 : 0 ≤ (x7_1 : Int) := of_decide_eq_true (by first | (with_reducible assumption) | assumption)
                          have q10 : x7_1 < (a0.size : Int) := of_decide_eq_true (by first | (with_reducible assumption) | assumption)
                          have hx10 := bt_at a0 x7_1
                          replace p10 := eq_true p10
                          replace q10 := eq_true q10
                          go_wp2
                          go_roundg k1
                          case measure => have := HK1.out; omega
                          case rel => exact ⟨(true), (wrap64 (x7_1 + 1)), (by first | rfl | (simp; done) | (simp [*]; done)), (by first | rfl | (simp; done) | (simp [*]; done)), H', ⟨by have := HK1.out; omega⟩, ⟨by repeat (first | (with_reducible first | exact HB.out | apply below_alloc | apply pw_below_drewN | apply below_drew1) | exact HB.out)⟩⟩
                        · rw [if_neg c17] at H
                          have c17b0 : ((bt a0 x7_1) == 9) = false := beq_eq_false_iff_ne.mpr c17
                          have c17b1 : ((bt a0 x7_1) != 9) = true := bne_iff_ne.mpr c17
                          by_cases c18 : (bt a0 x7_1) = 10
                          · rw [if_pos c18] at H
                            have c18b0 : ((bt a0 x7_1) == 10) = true := beq_iff_eq.mpr c18
                            have c18b1 : ((bt a0 x7_1) != 10) = false := bne_eq_false_iff_eq.mpr c18
                            clear c18
                            have H' := Aside0.mk H
                            clear H
                            have p10 : 0 ≤ (x7_1 : Int) := of_decide_eq_true (by first | (with_reducible assumption) | assumption)
                            have q10 : x7_1 < (a0.size : Int) := of_decide_eq_true (by first | (with_reducible assumption) | assumption)
                            have hx10 := bt_at a0 x7_1
                            replace p10 := eq_true p10
                            replace q10 := eq_true q10
                            go_wp2
                            go_roundg k1
                            case measure => have := HK1.out; omega
                            case rel => exact ⟨(true), (wrap64 (x7_1 + 1)), (by first | rfl | (simp; done) | (simp [*]; done)), (by first | rfl | (simp; done) | (simp [*]; done)), H', ⟨by have := HK1.out; omega⟩, ⟨by repeat (first | (with_reducible first | exact HB.out | apply below_alloc | apply pw_below_drewN | apply below_drew1) | exact HB.out)⟩⟩
                          · rw [if_neg c18] at H
                            have c18b0 : ((bt a0 x7_1) == 10) = false := beq_eq_false_iff_ne.mpr c18
                            have c18b1 : ((bt a0 x7_1) != 10) = true := bne_iff_ne.mpr c18
                            have H' := Aside0.mk H
                            clear H
                            have p10 : 0 ≤ (x7_1 : Int) := of_decide_eq_true (by first | (with_reducible assumption) | assumption)
                            have q10 : x7_1 < (a0.size : Int) := of_decide_eq_true (by first | (with_reducible assumption) | assumption)
                            have hx10 := bt_at a0 x7_1
                            replace p10 := eq_true p10
                            replace q10 := eq_true q10
                            go_wp2
                            go_roundg k1
                            case measure => have := HK1.out; omega
                            case rel => exact ⟨(((bt a0 x7_1) == 13)), (wrap64 (x7_1 + 1)), (by first | rfl | (simp; done) | (simp [*]; done)), (by first | rfl | (simp; done) | (simp [*]; done)), H', ⟨by have := HK1.out; omega⟩, ⟨by repeat (first | (with_reducible first | exact HB.out | apply below_alloc | apply pw_below_drewN | apply below_drew1) | exact HB.out)⟩⟩
          · rw [if_neg c9] at H
            exact absurd H (by simp)
        · rw [if_neg c8] at H
          have c8b0 : decide (x7_1 < (a0.size : Int)) = false := decide_eq_false c8
          clear c8
          have H' := Aside0.mk H
          clear H
          go_wp2
          go_loopg [9] k1 (fun kq v9 w' => ∃ (x9_2 : Int), v9 = .int .i64 x9_2 ∧ Aside0 (wharflaw05_TagMarks.l1 kq a0 a1 t151 x6_1 x9_2 = some r) ∧ Aside0 (kq ≤ k1) ∧ Aside0 (Below w.heap.size w w'))
          case atStart => exact ⟨(0), (by first | rfl | (simp; done) | (simp [*]; done)), H', ⟨Nat.le_refl _⟩, ⟨by repeat (first | (with_reducible first | exact HB.out | apply below_alloc | apply pw_below_drewN | apply below_drew1) | exact HB.out)⟩⟩
          case round =>
            clear H'
            try clear c1
            try clear p1
            try clear q1
            try clear hx1
            try clear p2
            try clear c3
            try clear c3b0
            try clear c4
            try clear p6
            try clear c8
            try clear c8b0
            try clear c9
            try clear c9b0
            try clear p10
            try clear q10
            try clear hx10
            try clear c11
            try clear c12
            try clear c12b0
            try clear c12b1
            try clear c13
            try clear c13b0
            try clear c13b1
            try clear c14
            try clear c14b0
            try clear c14b1
            try clear c15
            try clear c15b0
            try clear c15b1
            try clear c16
            try clear c16b0
            try clear c16b1
            try clear c17
            try clear c17b0
            try clear c17b1
            try clear c18
            try clear c18b0
            try clear c18b1
            try clear p10
            try clear p2
            try clear p6
            try clear q10
            obtain ⟨x9_2, rfl, HA, HK2, HB⟩ := hrel
            cases gk with
            | zero => exact absurd HA.out (by simp [wharflaw05_TagMarks.l1])
            | succ k2 =>
              have H := HA.out
              clear HA
              simp only [wharflaw05_TagMarks.l1] at H
              by_cases c19 : x9_2 < (t151.size : Int)
              · rw [if_pos c19] at H
                have c19b0 : decide (x9_2 < (t151.size : Int)) = true := decide_eq_true c19
                clear c19
                by_cases c20 : 0 ≤ x9_2
                · rw [if_pos c20] at H
                  have c20b0 : decide (0 ≤ x9_2) = true := decide_eq_true c20
                  clear c20
                  by_cases c22 : (bt t151 x9_2) = 60
                  · rw [if_pos c22] at H
                    have c22b0 : ((bt t151 x9_2) == 60) = true := beq_iff_eq.mpr c22
                    have c22b1 : ((bt t151 x9_2) != 60) = false := bne_eq_false_iff_eq.mpr c22
                    clear c22
                    exact absurd (Option.some.inj H) (by rw [HT_.out]; exact Bool.false_ne_true)
                  · rw [if_neg c22] at H
                    have c22b0 : ((bt t151 x9_2) == 60) = false := beq_eq_false_iff_ne.mpr c22
                    have c22b1 : ((bt t151 x9_2) != 60) = true := bne_iff_ne.mpr c22
                    by_cases c23 : (bt t151 x9_2) = 62
                    · rw [if_pos c23] at H
                      have c23b0 : ((bt t151 x9_2) == 62) = true := beq_iff_eq.mpr c23
                      have c23b1 : ((bt t151 x9_2) != 62) = false := bne_eq_false_iff_eq.mpr c23
                      clear c23
                      exact absurd (Option.some.inj H) (by rw [HT_.out]; exact Bool.false_ne_true)
                    · rw [if_neg c23] at H
                      have c23b0 : ((bt t151 x9_2) == 62) = false := beq_eq_false_iff_ne.mpr c23
                      have c23b1 : ((bt t151 x9_2) != 62) = true := bne_iff_ne.mpr c23
                      by_cases c24 : (bt t151 x9_2) = 39
                      · rw [if_pos c24] at H
                        have c24b0 : ((bt t151 x9_2) == 39) = true := beq_iff_eq.mpr c24
                        have c24b1 : ((bt t151 x9_2) != 39) = false := bne_eq_false_iff_eq.mpr c24
                        clear c24
                        exact absurd (Option.some.inj H) (by rw [HT_.out]; exact Bool.false_ne_true)
                      · rw [if_neg c24] at H
                        have c24b0 : ((bt t151 x9_2) == 39) = false := beq_eq_false_iff_ne.mpr c24
                        have c24b1 : ((bt t151 x9_2) != 39) = true := bne_iff_ne.mpr c24
                        by_cases c25 : (bt t151 x9_2) = 34
                        · rw [if_pos c25] at H
                          have c25b0 : ((bt t151 x9_2) == 34) = true := beq_iff_eq.mpr c25
                          have c25b1 : ((bt t151 x9_2) != 34) = false := bne_eq_false_iff_eq.mpr c25
                          clear c25
                          exact absurd (Option.some.inj H) (by rw [HT_.out]; exact Bool.false_ne_true)
                        · rw [if_neg c25] at H
                          have c25b0 : ((bt t151 x9_2) == 34) = false := beq_eq_false_iff_ne.mpr c25
                          have c25b1 : ((bt t151 x9_2) != 34) = true := bne_iff_ne.mpr c25
                          by_cases c26 : (bt t151 x9_2) = 9
                          · rw [if_pos c26] at H
                            have c26b0 : ((bt t151 x9_2) == 9) = true := beq_iff_eq.mpr c26
                            have c26b1 : ((bt t151 x9_2) != 9) = false := bne_eq_false_iff_eq.mpr c26
                            clear c26
                            exact absurd (Option.some.inj H) (by rw [HT_.out]; exact Bool.false_ne_true)
                          · rw [if_neg c26] at H
                            have c26b0 : ((bt t151 x9_2) == 9) = false := beq_eq_false_iff_ne.mpr c26
                            have c26b1 : ((bt t151 x9_2) != 9) = true := bne_iff_ne.mpr c26
                            by_cases c27 : (bt t151 x9_2) = 10
                            · rw [if_pos c27] at H
                              have c27b0 : ((bt t151 x9_2) == 10) = true := beq_iff_eq.mpr c27
                              have c27b1 : ((bt t151 x9_2) != 10) = false := bne_eq_false_iff_eq.mpr c27
                              clear c27
                              exact absurd (Option.some.inj H) (by rw [HT_.out]; exact Bool.false_ne_true)
                            · rw [if_neg c27] at H
                              have c27b0 : ((bt t151 x9_2) == 10) = false := beq_eq_false_iff_ne.mpr c27
                              have c27b1 : ((bt t151 x9_2) != 10) = true := bne_iff_ne.mpr c27
                              by_cases c28 : (bt t151 x9_2) = 13
                              · rw [if_pos c28] at H
                                have c28b0 : ((bt t151 x9_2) == 13) = true := beq_iff_eq.mpr c28
                                have c28b1 : ((bt t151 x9_2) != 13) = false := bne_eq_false_iff_eq.mpr c28
                                clear c28
                                exact absurd (Option.some.inj H) (by rw [HT_.out]; exact Bool.false_ne_true)
                              · rw [if_neg c28] at H
                                have c28b0 : ((bt t151 x9_2) == 13) = false := beq_eq_false_iff_ne.mpr c28
                                have c28b1 : ((bt t151 x9_2) != 13) = true := bne_iff_ne.mpr c28
                                have H' := Aside0.mk H
                                clear H
                                have p21 : 0 ≤ (x9_2 : Int) := of_decide_eq_true (by first | (with_reducible assumption) | assumption)
                                have q21 : x9_2 < (t151.size : Int) := of_decide_eq_true (by first | (with_reducible assumption) | assumption)
                                have hx21 := bt_at t151 x9_2
                                replace p21 := eq_true p21
                                replace q21 := eq_true q21
                                go_wp2
                                go_roundg k2
                                case measure => have := HK1.out; have := HK2.out; omega
                                case rel => exact ⟨(wrap64 (x9_2 + 1)), (by first | rfl | (simp; done) | (simp [*]; done)), H', ⟨by have := HK1.out; have := HK2.out; omega⟩, ⟨by repeat (first | (with_reducible first | exact HB.out | apply below_alloc | apply pw_below_drewN | apply below_drew1) | exact HB.out)⟩⟩
                · rw [if_neg c20] at H
                  exact absurd H (by simp)
              · rw [if_neg c19] at H
                have c19b0 : decide (x9_2 < (t151.size : Int)) = false := decide_eq_false c19
                clear c19
                by_cases c29 : ((t151.toList == a0.toList) == (!x6_1)) = true
                · rw [if_pos c29] at H
                  have c29b0 : ((t151.toList == a0.toList) == (!x6_1)) = true := c29
                  (try (have c29b1 : decide ((t151.toList == a0.toList) = (!x6_1)) = true := by simpa using c29))
                  (try (have c29b2 : ((t151.toList == a0.toList) == (!x6_1)) = true := by simpa using c29))
                  clear c29
                  by_cases c30 : a0.size + a1.size ≤ 9223372036854775807
                  · rw [if_pos c30] at H
                    have c30b0 := eq_true c30
                    have c30b1 : decide (a0.size + a1.size ≤ 9223372036854775807) = true := decide_eq_true c30
                    try have c30b2 : (9223372036854775807 < a0.size + a1.size) = False := eq_false (Nat.not_lt.2 c30)
                    (try (have c3b0wc30 := c3b0; rw [show wrap64 ((a0.size : Int) + (a1.size : Int)) = (a0.size : Int) + (a1.size : Int) from by unfold wrap64; omega] at c3b0wc30))
                    replace H := Option.bind_eq_some_iff.mp H
                    obtain ⟨t152, A310, H⟩ := H
                    replace H : ((tag_Quote.f a1).bind fun t153 => (if t151.size + t153.size ≤ 9223372036854775807 then (if t152.toList = (t151 ++ t153).toList then ((wharflaw05_live.f).bind fun t154 => (some t154)) else (some false)) else (none))) = some r := H
                    have A31 := Aside0.mk A310
                    clear A310
                    replace H := Option.bind_eq_some_iff.mp H
                    obtain ⟨t153, A320, H⟩ := H
                    replace H : (if t151.size + t153.size ≤ 9223372036854775807 then (if t152.toList = (t151 ++ t153).toList then ((wharflaw05_live.f).bind fun t154 => (some t154)) else (some false)) else (none)) = some r := H
                    have A32 := Aside0.mk A320
                    clear A320
                    by_cases c33 : t151.size + t153.size ≤ 9223372036854775807
                    · rw [if_pos c33] at H
                      have c33b0 := eq_true c33
                      have c33b1 : decide (t151.size + t153.size ≤ 9223372036854775807) = true := decide_eq_true c33
                      try have c33b2 : (9223372036854775807 < t151.size + t153.size) = False := eq_false (Nat.not_lt.2 c33)
                      (try (have c3b0wc33 := c3b0; rw [show wrap64 ((a0.size : Int) + (a1.size : Int)) = (a0.size : Int) + (a1.size : Int) from by unfold wrap64; omega] at c3b0wc33))
                      by_cases c34 : t152.toList = (t151 ++ t153).toList
                      · rw [if_pos c34] at H
                        have c34b0 : (t152.toList == (t151 ++ t153).toList) = true := beq_iff_eq.mpr c34
                        have c34b1 : (t152.toList != (t151 ++ t153).toList) = false := bne_eq_false_iff_eq.mpr c34
                        clear c34
                        replace H := Option.bind_eq_some_iff.mp H
                        obtain ⟨t154, A350, H⟩ := H
                        replace H : (some t154) = some r := H
                        have A35 := Aside0.mk A350
                        clear A350
                        obtain rfl := Option.some.inj H
                        go_wp2_with (first | (go_at_call 11; (with_reducible refine (tag_Quote.calls (a0 ++ a1) t152 _ A31.out).mono ?_); rintro e w36 ⟨rfl, hb⟩; have n0_ := Aside0.mk (below_step (by repeat (first | (with_reducible first | exact HB.out | apply below_alloc | apply pw_below_drewN | apply below_drew1) | exact HB.out)) hb); clear HB; have HB := n0_; clear n0_; (try clear hb); (try clear hb2); (try clear hk); (try clear hi)) | (go_at_call 11; (with_reducible refine (tag_Quote.calls a1 t153 _ A32.out).mono ?_); rintro e w37 ⟨rfl, hb⟩; have n0_ := Aside0.mk (below_step (by repeat (first | (with_reducible first | exact HB.out | apply below_alloc | apply pw_below_drewN | apply below_drew1) | exact HB.out)) hb); clear HB; have HB := n0_; clear n0_; (try clear hb); (try clear hb2); (try clear hk); (try clear hi)) | (go_at_call 8; (with_reducible refine (wharflaw05_live.calls  t154 _ A35.out).mono ?_); rintro e w38 ⟨rfl, hb⟩; have n0_ := Aside0.mk (below_step (by repeat (first | (with_reducible first | exact HB.out | apply below_alloc | apply pw_below_drewN | apply below_drew1) | exact HB.out)) hb); clear HB; have HB := n0_; clear n0_; (try clear hb); (try clear hb2); (try clear hk); (try clear hi)))
                        go_ret
                        exact ⟨by first | rfl | (simp [errW_none, errW_some] <;> rfl) | (simp [*, errW_none, errW_some] <;> rfl), by repeat (first | (with_reducible first | exact HB.out | apply below_alloc | apply pw_below_drewN | apply below_drew1) | exact HB.out)⟩
                      · rw [if_neg c34] at H
                        have c34b0 : (t152.toList == (t151 ++ t153).toList) = false := beq_eq_false_iff_ne.mpr c34
                        have c34b1 : (t152.toList != (t151 ++ t153).toList) = true := bne_iff_ne.mpr c34
                        exact absurd (Option.some.inj H) (by rw [HT_.out]; exact Bool.false_ne_true)
                    · rw [if_neg c33] at H
                      exact absurd H (by simp)
                  · rw [if_neg c30] at H
                    exact absurd H (by simp)
                · rw [if_neg c29] at H
                  have c29b0 : ((t151.toList == a0.toList) == (!x6_1)) = false := by simpa using c29
                  (try (have c29b1 : decide ((t151.toList == a0.toList) = (!x6_1)) = false := by simpa using c29))
                  (try (have c29b2 : ((t151.toList == a0.toList) == (!x6_1)) = false := by simpa using c29))
                  (try (have c29b3 : ¬ ((t151.toList == a0.toList) = (!x6_1)) := by simpa using c29))
                  clear c29
                  exact absurd (Option.some.inj H) (by rw [HT_.out]; exact Bool.false_ne_true)

end Go.Proofs.Ytepdfpclicdpfaa.H
