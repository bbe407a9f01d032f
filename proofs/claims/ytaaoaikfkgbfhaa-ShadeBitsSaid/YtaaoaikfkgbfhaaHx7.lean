-- written by hp.py for this claim, out of the kit's printer and texts of my own
import Derived.Test.YtaaoaikfkgbfhaaHx0
import Derived.Test.YtaaoaikfkgbfhaaHx8
import Derived.Test.YtaaoaikfkgbfhaaHx9
import Derived.Test.YtaaoaikfkgbfhaaHx11
namespace Go.Proofs.Ytaaoaikfkgbfhaa.H
open Go.RowKit Go.Proofs.YtaaoaikfkgbfhaaW.PrintWords Go.Proofs.YtaaoaikfkgbfhaaW.PrintLast Go.Proofs.YtaaoaikfkgbfhaaW.PrintMore
attribute [local go_sem] max2_int min2_int max_two min_two max_three min_three max_four min_four   -- for this text's walks alone
set_option linter.unusedVariables false
set_option linter.unusedSimpArgs false

/-! ### wharflaw16_ShadeBits: function 7 -/
mutual
def wharflaw16_ShadeBits.j0 : Nat → Int → Int → Bool → Option (Bool)
  | 0, _, _, _ => none
  | k + 1, x0, x1, x24 => if x24 = true then ((wharflaw16_live.f k).bind fun t218 => (some t218)) else ((shade_Show.f k x0).bind fun bt219 => ((shade_Show.f k (wrap64 (x0 + (wrap64 (512 * x1))))).bind fun bt221 => ((shade_Show.f k (wrap64 ((wrap64 ((wrap64 ((wrap64 (Int.tdiv x0 512)) * 512)) + (Int.tmod x0 256))) + 256))).bind fun bt223 => (if bt219.1.toList = bt221.1.toList then (if (bt219.2 != bt221.2) = true then (wharflaw16_ShadeBits.j1 k bt219.1 bt219.2 true) else (if bt223.2 = true then (wharflaw16_ShadeBits.j1 k bt219.1 bt219.2 true) else (wharflaw16_ShadeBits.j1 k bt219.1 bt219.2 (bt219.2 != (decide (x0 < 256)))))) else (wharflaw16_ShadeBits.j1 k bt219.1 bt219.2 true)))))
def wharflaw16_ShadeBits.j1 : Nat → ByteArray → Bool → Bool → Option (Bool)
  | 0, _, _, _ => none
  | k + 1, x5, x6, x66 => if x66 = true then (some false) else (if x5.toList = ([] : List UInt8) then (if x6 = true then ((wharflaw16_live.f k).bind fun t225 => (some t225)) else ((wharflaw16_live.f k).bind fun t226 => (some t226))) else (if x5.toList = ([97, 119, 97, 121] : List UInt8) then (if x6 = true then ((shade_Status.f x5).bind fun t227 => (if t227 = 0 then (some false) else ((wharflaw16_live.f k).bind fun t228 => (some t228)))) else ((wharflaw16_live.f k).bind fun t229 => (some t229))) else (if x5.toList = ([99, 104, 97, 116] : List UInt8) then (if x6 = true then ((shade_Status.f x5).bind fun t230 => (if t230 = 0 then (some false) else ((wharflaw16_live.f k).bind fun t231 => (some t231)))) else ((wharflaw16_live.f k).bind fun t232 => (some t232))) else (if x5.toList = ([100, 110, 100] : List UInt8) then (if x6 = true then ((shade_Status.f x5).bind fun t233 => (if t233 = 0 then (some false) else ((wharflaw16_live.f k).bind fun t234 => (some t234)))) else ((wharflaw16_live.f k).bind fun t235 => (some t235))) else (if x5.toList = ([120, 97] : List UInt8) then (if x6 = true then ((shade_Status.f x5).bind fun t236 => (if t236 = 0 then (some false) else ((wharflaw16_live.f k).bind fun t237 => (some t237)))) else ((wharflaw16_live.f k).bind fun t238 => (some t238))) else (some false))))))
end
def wharflaw16_ShadeBits.f (k : Nat) (a0 : Int) (a1 : Int) : Option (Bool) := if a0 < 0 then (wharflaw16_ShadeBits.j0 k a0 a1 true) else (if a0 > 511 then (wharflaw16_ShadeBits.j0 k a0 a1 true) else (if a1 < 0 then (wharflaw16_ShadeBits.j0 k a0 a1 true) else (wharflaw16_ShadeBits.j0 k a0 a1 (decide (a1 > 1048576)))))
theorem wharflaw16_ShadeBits.mono_l : ∀ k, (∀ y0 y1 y2, LeO (wharflaw16_ShadeBits.j0 k y0 y1 y2) (wharflaw16_ShadeBits.j0 (k + 1) y0 y1 y2)) ∧ (∀ y0 y1 y2, LeO (wharflaw16_ShadeBits.j1 k y0 y1 y2) (wharflaw16_ShadeBits.j1 (k + 1) y0 y1 y2))
  | 0 => ⟨fun _ _ _ r h => by simp [wharflaw16_ShadeBits.j0] at h, fun _ _ _ r h => by simp [wharflaw16_ShadeBits.j1] at h⟩
  | k + 1 => by
    obtain ⟨ih0, ih1⟩ := wharflaw16_ShadeBits.mono_l k
    refine ⟨?_, ?_⟩
    · intro y0 y1 y2
      unfold wharflaw16_ShadeBits.j0
      repeat' first
      | (with_reducible exact ih0 _ _ _)
      | (with_reducible exact ih1 _ _ _)
      | (with_reducible exact shade_Show.mono _ _)
      | (with_reducible exact wharflaw16_live.mono _)
      | (with_reducible exact LeO.refl _)
      | (with_reducible exact LeO.none _)
      | (with_reducible refine LeO.ite ?_ ?_)
      | (with_reducible refine LeO.bind ?_ (fun _ => ?_))
      | exact ih0 _ _ _
      | exact ih1 _ _ _
      | exact shade_Show.mono _ _
      | exact wharflaw16_live.mono _
      | exact LeO.none _
      | refine LeO.ite ?_ ?_
      | refine LeO.bind ?_ (fun _ => ?_)
    · intro y0 y1 y2
      unfold wharflaw16_ShadeBits.j1
      repeat' first
      | (with_reducible exact ih0 _ _ _)
      | (with_reducible exact ih1 _ _ _)
      | (with_reducible exact shade_Show.mono _ _)
      | (with_reducible exact wharflaw16_live.mono _)
      | (with_reducible exact LeO.refl _)
      | (with_reducible exact LeO.none _)
      | (with_reducible refine LeO.ite ?_ ?_)
      | (with_reducible refine LeO.bind ?_ (fun _ => ?_))
      | exact ih0 _ _ _
      | exact ih1 _ _ _
      | exact shade_Show.mono _ _
      | exact wharflaw16_live.mono _
      | exact LeO.none _
      | refine LeO.ite ?_ ?_
      | refine LeO.bind ?_ (fun _ => ?_)
theorem wharflaw16_ShadeBits.mono : ∀ a0 a1 k, LeO (wharflaw16_ShadeBits.f k a0 a1) (wharflaw16_ShadeBits.f (k + 1) a0 a1) := by
  intro a0 a1 k
  obtain ⟨ih0, ih1⟩ := wharflaw16_ShadeBits.mono_l k
  unfold wharflaw16_ShadeBits.f
  repeat' first
      | (with_reducible exact ih0 _ _ _)
      | (with_reducible exact ih1 _ _ _)
      | (with_reducible exact shade_Show.mono _ _)
      | (with_reducible exact wharflaw16_live.mono _)
      | (with_reducible exact LeO.refl _)
      | (with_reducible exact LeO.none _)
      | (with_reducible refine LeO.ite ?_ ?_)
      | (with_reducible refine LeO.bind ?_ (fun _ => ?_))
      | exact ih0 _ _ _
      | exact ih1 _ _ _
      | exact shade_Show.mono _ _
      | exact wharflaw16_live.mono _
      | exact LeO.none _
      | refine LeO.ite ?_ ?_
      | refine LeO.bind ?_ (fun _ => ?_)
set_option maxHeartbeats 8000000 in
set_option maxRecDepth 100000 in
theorem wharflaw16_ShadeBits.callsT (k : Nat) (a0 : Int) (a1 : Int) (r : Bool) (w : World) (HT_ : Aside0 (r = true)) (h : wharflaw16_ShadeBits.f k a0 a1 = some r) :
    Calls Try.prog 7 #[.int .i64 a0, .int .i64 a1] w fun e w' => e = .returned (.bool r) ∧ Below w.heap.size w w' := by
  have HB := Aside0.mk (Below.refl w.heap.size w)
  have H : (if a0 < 0 then (wharflaw16_ShadeBits.j0 k a0 a1 true) else (if a0 > 511 then (wharflaw16_ShadeBits.j0 k a0 a1 true) else (if a1 < 0 then (wharflaw16_ShadeBits.j0 k a0 a1 true) else (wharflaw16_ShadeBits.j0 k a0 a1 (decide (a1 > 1048576)))))) = some r := h
  clear h
  have HC3 := Aside0.mk H
  clear H
  go_enter Try.func7, Try.ntmps7
  go_upto_region 1 with (fail)
  go_cut [24] (fun v24 wc => ∃ (kq : Nat) (x24_2 : Bool), v24 = .bool x24_2 ∧ Aside0 (wharflaw16_ShadeBits.j0 kq a0 a1 x24_2 = some r) ∧ Aside0 (kq ≤ k) ∧ Aside0 (Below w.heap.size w wc))
  case first =>
    have H := HC3.out
    clear HC3
    by_cases c4 : a0 < 0
    · rw [if_pos c4] at H
      have c4b0 : decide (a0 < 0) = true := decide_eq_true c4
      clear c4
      (first | rw [c4b0] | (simp only [i64_w, i32_w]; rw [c4b0]) | skip)
      have H' := Aside0.mk H
      clear H
      go_wp2
      go_meet
      case rel => exact ⟨_, (true), (by first | rfl | (simp; done) | (simp [*]; done)), H', ⟨by first | omega | exact Nat.le_refl _⟩, ⟨by repeat (first | (with_reducible first | exact HB.out | apply below_alloc | apply pw_below_drewN | apply below_drew1) | exact HB.out)⟩⟩
    · rw [if_neg c4] at H
      have c4b0 : decide (a0 < 0) = false := decide_eq_false c4
      clear c4
      (first | rw [c4b0] | (simp only [i64_w, i32_w]; rw [c4b0]) | skip)
      by_cases c5 : a0 > 511
      · rw [if_pos c5] at H
        have c5b0 : decide (511 < a0) = true := decide_eq_true c5
        clear c5
        have H' := Aside0.mk H
        clear H
        go_wp2
        go_meet
        case rel => exact ⟨_, (true), (by first | rfl | (simp; done) | (simp [*]; done)), H', ⟨by first | omega | exact Nat.le_refl _⟩, ⟨by repeat (first | (with_reducible first | exact HB.out | apply below_alloc | apply pw_below_drewN | apply below_drew1) | exact HB.out)⟩⟩
      · rw [if_neg c5] at H
        have c5b0 : decide (511 < a0) = false := decide_eq_false c5
        clear c5
        by_cases c6 : a1 < 0
        · rw [if_pos c6] at H
          have c6b0 : decide (a1 < 0) = true := decide_eq_true c6
          clear c6
          have H' := Aside0.mk H
          clear H
          go_wp2
          go_meet
          case rel => exact ⟨_, (true), (by first | rfl | (simp; done) | (simp [*]; done)), H', ⟨by first | omega | exact Nat.le_refl _⟩, ⟨by repeat (first | (with_reducible first | exact HB.out | apply below_alloc | apply pw_below_drewN | apply below_drew1) | exact HB.out)⟩⟩
        · rw [if_neg c6] at H
          have c6b0 : decide (a1 < 0) = false := decide_eq_false c6
          clear c6
          have H' := Aside0.mk H
          clear H
          go_wp2
          go_meet
          case rel => exact ⟨_, (decide (a1 > 1048576)), (by first | rfl | (simp; done) | (simp [*]; done)), H', ⟨by first | omega | exact Nat.le_refl _⟩, ⟨by repeat (first | (with_reducible first | exact HB.out | apply below_alloc | apply pw_below_drewN | apply below_drew1) | exact HB.out)⟩⟩
  case rest =>
    clear HC3
    try clear p2
    try clear c4
    try clear c4b0
    try clear c5
    try clear c5b0
    try clear c6
    try clear c6b0
    obtain ⟨kq, x24_2, rfl, HA, HJ2, HB⟩ := hcut
    cases kq with
    | zero => exact absurd HA.out (by simp [wharflaw16_ShadeBits.j0])
    | succ kj2 =>
      have H := HA.out
      clear HA
      simp only [wharflaw16_ShadeBits.j0] at H
      by_cases c7 : x24_2 = true
      · subst c7
        have H1 : ((wharflaw16_live.f kj2).bind fun t218 => (some t218)) = some r := by rw [if_pos rfl] at H; exact H
        clear H
        have H := H1
        clear H1
        replace H := Option.bind_eq_some_iff.mp H
        obtain ⟨t218, A80, H⟩ := H
        replace H : (some t218) = some r := H
        have A8 := Aside0.mk A80
        clear A80
        obtain rfl := Option.some.inj H
        go_wp2_with (first | ((with_reducible refine gate_callee (f := 8) rfl ?_); refine goesL_ (some 25) rfl rfl Try.func8 (by kernel_rfl) rfl #[] rfl (by (try simp only [List.map_toArray, List.map_cons, List.map_nil]); first | done | rfl | (simp only [List.length_drop, List.length_take]; rfl)) ?_; (with_reducible refine (wharflaw16_live.calls kj2  t218 _ A8.out).mono ?_); rintro e w9 ⟨rfl, hb⟩; refine ⟨_, rfl, ?_⟩; have n0_ := Aside0.mk (below_step (by repeat (first | (with_reducible first | exact HB.out | apply below_alloc | apply pw_below_drewN | apply below_drew1) | exact HB.out)) hb); clear HB; have HB := n0_; clear n0_; (try clear hb); (try clear hb2); (try clear hk); (try clear hi)))
        go_ret
        exact ⟨by first | rfl | (simp [errW_none, errW_some] <;> rfl) | (simp [*, errW_none, errW_some] <;> rfl), by repeat (first | (with_reducible first | exact HB.out | apply below_alloc | apply pw_below_drewN | apply below_drew1) | exact HB.out)⟩
      · replace c7 := Bool.eq_false_iff.mpr c7
        subst c7
        have H1 : ((shade_Show.f kj2 a0).bind fun bt219 => ((shade_Show.f kj2 (wrap64 (a0 + (wrap64 (512 * a1))))).bind fun bt221 => ((shade_Show.f kj2 (wrap64 ((wrap64 ((wrap64 ((wrap64 (Int.tdiv a0 512)) * 512)) + (Int.tmod a0 256))) + 256))).bind fun bt223 => (if bt219.1.toList = bt221.1.toList then (if (bt219.2 != bt221.2) = true then (wharflaw16_ShadeBits.j1 kj2 bt219.1 bt219.2 true) else (if bt223.2 = true then (wharflaw16_ShadeBits.j1 kj2 bt219.1 bt219.2 true) else (wharflaw16_ShadeBits.j1 kj2 bt219.1 bt219.2 (bt219.2 != (decide (a0 < 256)))))) else (wharflaw16_ShadeBits.j1 kj2 bt219.1 bt219.2 true))))) = some r := by rw [if_neg (show ¬ (false = true) by decide)] at H; exact H
        clear H
        have H := H1
        clear H1
        replace H := Option.bind_eq_some_iff.mp H
        obtain ⟨⟨t219, t220⟩, A100, H⟩ := H
        replace H : ((shade_Show.f kj2 (wrap64 (a0 + (wrap64 (512 * a1))))).bind fun bt221 => ((shade_Show.f kj2 (wrap64 ((wrap64 ((wrap64 ((wrap64 (Int.tdiv a0 512)) * 512)) + (Int.tmod a0 256))) + 256))).bind fun bt223 => (if t219.toList = bt221.1.toList then (if (t220 != bt221.2) = true then (wharflaw16_ShadeBits.j1 kj2 t219 t220 true) else (if bt223.2 = true then (wharflaw16_ShadeBits.j1 kj2 t219 t220 true) else (wharflaw16_ShadeBits.j1 kj2 t219 t220 (t220 != (decide (a0 < 256)))))) else (wharflaw16_ShadeBits.j1 kj2 t219 t220 true)))) = some r := H
        have A10 := Aside0.mk A100
        clear A100
        replace H := Option.bind_eq_some_iff.mp H
        obtain ⟨⟨t221, t222⟩, A110, H⟩ := H
        replace H : ((shade_Show.f kj2 (wrap64 ((wrap64 ((wrap64 ((wrap64 (Int.tdiv a0 512)) * 512)) + (Int.tmod a0 256))) + 256))).bind fun bt223 => (if t219.toList = t221.toList then (if (t220 != t222) = true then (wharflaw16_ShadeBits.j1 kj2 t219 t220 true) else (if bt223.2 = true then (wharflaw16_ShadeBits.j1 kj2 t219 t220 true) else (wharflaw16_ShadeBits.j1 kj2 t219 t220 (t220 != (decide (a0 < 256)))))) else (wharflaw16_ShadeBits.j1 kj2 t219 t220 true))) = some r := H
        have A11 := Aside0.mk A110
        clear A110
        replace H := Option.bind_eq_some_iff.mp H
        obtain ⟨⟨t223, t224⟩, A120, H⟩ := H
        replace H : (if t219.toList = t221.toList then (if (t220 != t222) = true then (wharflaw16_ShadeBits.j1 kj2 t219 t220 true) else (if t224 = true then (wharflaw16_ShadeBits.j1 kj2 t219 t220 true) else (wharflaw16_ShadeBits.j1 kj2 t219 t220 (t220 != (decide (a0 < 256)))))) else (wharflaw16_ShadeBits.j1 kj2 t219 t220 true)) = some r := H
        have A12 := Aside0.mk A120
        clear A120
        have HC13 := Aside0.mk H
        clear H
        go_upto_region 6 with (first | ((with_reducible refine gate_callee (f := 9) rfl ?_); refine goesL_ (some 28) rfl rfl Try.func9 (by kernel_rfl) rfl #[.int .i64 a0] rfl (by (try simp only [List.map_toArray, List.map_cons, List.map_nil]); first | done | rfl | (simp only [List.length_drop, List.length_take]; rfl)) ?_; (with_reducible refine (shade_Show.calls kj2 a0 t219 t220 _ A10.out).mono ?_); rintro e w' ⟨rfl, ⟨nd, rfl⟩⟩; refine ⟨_, rfl, ?_⟩) | ((with_reducible refine gate_callee (f := 9) rfl ?_); refine goesL_ (some 36) rfl rfl Try.func9 (by kernel_rfl) rfl #[.int .i64 (wrap64 (a0 + (wrap64 (512 * a1))))] rfl (by (try simp only [List.map_toArray, List.map_cons, List.map_nil]); first | done | rfl | (simp only [List.length_drop, List.length_take]; rfl)) ?_; (with_reducible refine (shade_Show.calls kj2 (wrap64 (a0 + (wrap64 (512 * a1)))) t221 t222 _ A11.out).mono ?_); rintro e w' ⟨rfl, ⟨nd, rfl⟩⟩; refine ⟨_, rfl, ?_⟩) | ((with_reducible refine gate_callee (f := 9) rfl ?_); refine goesL_ (some 47) rfl rfl Try.func9 (by kernel_rfl) rfl #[.int .i64 (wrap64 ((wrap64 ((wrap64 ((wrap64 (Int.tdiv a0 512)) * 512)) + (Int.tmod a0 256))) + 256))] rfl (by (try simp only [List.map_toArray, List.map_cons, List.map_nil]); first | done | rfl | (simp only [List.length_drop, List.length_take]; rfl)) ?_; (with_reducible refine (shade_Show.calls kj2 (wrap64 ((wrap64 ((wrap64 ((wrap64 (Int.tdiv a0 512)) * 512)) + (Int.tmod a0 256))) + 256)) t223 t224 _ A12.out).mono ?_); rintro e w' ⟨rfl, ⟨nd, rfl⟩⟩; refine ⟨_, rfl, ?_⟩))
        (try simp only [Act.put, List.setIfInBounds_toArray, List.set_cons_zero, List.set_cons_succ])
        go_cut [66] (fun v66 wc => ∃ (kq : Nat) (x66_12 : Bool), v66 = .bool x66_12 ∧ Aside0 (wharflaw16_ShadeBits.j1 kq t219 t220 x66_12 = some r) ∧ Aside0 (kq ≤ kj2) ∧ Aside0 (Below w.heap.size w wc))
        case first =>
          have H := HC13.out
          clear HC13
          by_cases c14 : t219.toList = t221.toList
          · rw [if_pos c14] at H
            have c14b0 : (t219.toList == t221.toList) = true := beq_iff_eq.mpr c14
            have c14b1 : (t219.toList != t221.toList) = false := bne_eq_false_iff_eq.mpr c14
            clear c14
            (first | rw [c14b0] | (simp only [i64_w, i32_w]; rw [c14b0]) | skip)
            by_cases c15 : (t220 != t222) = true
            · rw [if_pos c15] at H
              have c15b0 : (t220 != t222) = true := c15
              (try (have c15b1 : decide (t220 = t222) = false := by simpa using c15))
              (try (have c15b2 : (t220 == t222) = false := by simpa using c15))
              (try (have c15b3 : ¬ (t220 = t222) := by simpa using c15))
              clear c15
              have H' := Aside0.mk H
              clear H
              go_wp2
              go_meet
              case rel => exact ⟨_, (true), (by first | rfl | (simp; done) | (simp [*]; done)), H', ⟨by have := HJ2.out; first | omega | exact Nat.le_refl _⟩, ⟨by repeat (first | (with_reducible first | exact HB.out | apply below_alloc | apply pw_below_drewN | apply below_drew1) | exact HB.out)⟩⟩
            · rw [if_neg c15] at H
              have c15b0 : (t220 != t222) = false := by simpa using c15
              (try (have c15b1 : decide (t220 = t222) = true := by simpa using c15))
              (try (have c15b2 : (t220 == t222) = true := by simpa using c15))
              clear c15
              by_cases c16 : t224 = true
              · subst c16
                have H1 : (wharflaw16_ShadeBits.j1 kj2 t219 t220 true) = some r := by rw [if_pos rfl] at H; exact H
                clear H
                have H := H1
                clear H1
                have H' := Aside0.mk H
                clear H
                go_wp2
                go_meet
                case rel => exact ⟨_, (true), (by first | rfl | (simp; done) | (simp [*]; done)), H', ⟨by have := HJ2.out; first | omega | exact Nat.le_refl _⟩, ⟨by repeat (first | (with_reducible first | exact HB.out | apply below_alloc | apply pw_below_drewN | apply below_drew1) | exact HB.out)⟩⟩
              · replace c16 := Bool.eq_false_iff.mpr c16
                subst c16
                have H1 : (wharflaw16_ShadeBits.j1 kj2 t219 t220 (t220 != (decide (a0 < 256)))) = some r := by rw [if_neg (show ¬ (false = true) by decide)] at H; exact H
                clear H
                have H := H1
                clear H1
                have H' := Aside0.mk H
                clear H
                go_wp2
                go_meet
                case rel => exact ⟨_, ((t220 != (decide (a0 < 256)))), (by first | rfl | (simp; done) | (simp [*]; done)), H', ⟨by have := HJ2.out; first | omega | exact Nat.le_refl _⟩, ⟨by repeat (first | (with_reducible first | exact HB.out | apply below_alloc | apply pw_below_drewN | apply below_drew1) | exact HB.out)⟩⟩
          · rw [if_neg c14] at H
            have c14b0 : (t219.toList == t221.toList) = false := beq_eq_false_iff_ne.mpr c14
            have c14b1 : (t219.toList != t221.toList) = true := bne_iff_ne.mpr c14
            (first | rw [c14b0] | (simp only [i64_w, i32_w]; rw [c14b0]) | skip)
            have H' := Aside0.mk H
            clear H
            go_wp2
            go_meet
            case rel => exact ⟨_, (true), (by first | rfl | (simp; done) | (simp [*]; done)), H', ⟨by have := HJ2.out; first | omega | exact Nat.le_refl _⟩, ⟨by repeat (first | (with_reducible first | exact HB.out | apply below_alloc | apply pw_below_drewN | apply below_drew1) | exact HB.out)⟩⟩
        case rest =>
          clear HC13
          try clear c1
          try clear p2
          try clear c4
          try clear c4b0
          try clear c5
          try clear c5b0
          try clear c6
          try clear c6b0
          try clear p6
          try clear c7
          try clear c8
          try clear c9
          try clear c14
          try clear c14b0
          try clear c14b1
          try clear c15
          try clear c15b0
          try clear c15b1
          try clear c15b2
          try clear c16
          try clear p2
          obtain ⟨kq, x66_12, rfl, HA, HJ12, HB⟩ := hcut
          cases kq with
          | zero => exact absurd HA.out (by simp [wharflaw16_ShadeBits.j1])
          | succ kj12 =>
            have H := HA.out
            clear HA
            simp only [wharflaw16_ShadeBits.j1] at H
            by_cases c17 : x66_12 = true
            · subst c17
              have H1 : (some false) = some r := by rw [if_pos rfl] at H; exact H
              clear H
              have H := H1
              clear H1
              exact absurd (Option.some.inj H) (by rw [HT_.out]; exact Bool.false_ne_true)
            · replace c17 := Bool.eq_false_iff.mpr c17
              subst c17
              have H1 : (if t219.toList = ([] : List UInt8) then (if t220 = true then ((wharflaw16_live.f kj12).bind fun t225 => (some t225)) else ((wharflaw16_live.f kj12).bind fun t226 => (some t226))) else (if t219.toList = ([97, 119, 97, 121] : List UInt8) then (if t220 = true then ((shade_Status.f t219).bind fun t227 => (if t227 = 0 then (some false) else ((wharflaw16_live.f kj12).bind fun t228 => (some t228)))) else ((wharflaw16_live.f kj12).bind fun t229 => (some t229))) else (if t219.toList = ([99, 104, 97, 116] : List UInt8) then (if t220 = true then ((shade_Status.f t219).bind fun t230 => (if t230 = 0 then (some false) else ((wharflaw16_live.f kj12).bind fun t231 => (some t231)))) else ((wharflaw16_live.f kj12).bind fun t232 => (some t232))) else (if t219.toList = ([100, 110, 100] : List UInt8) then (if t220 = true then ((shade_Status.f t219).bind fun t233 => (if t233 = 0 then (some false) else ((wharflaw16_live.f kj12).bind fun t234 => (some t234)))) else ((wharflaw16_live.f kj12).bind fun t235 => (some t235))) else (if t219.toList = ([120, 97] : List UInt8) then (if t220 = true then ((shade_Status.f t219).bind fun t236 => (if t236 = 0 then (some false) else ((wharflaw16_live.f kj12).bind fun t237 => (some t237)))) else ((wharflaw16_live.f kj12).bind fun t238 => (some t238))) else (some false)))))) = some r := by rw [if_neg (show ¬ (false = true) by decide)] at H; exact H
              clear H
              have H := H1
              clear H1
              by_cases c18 : t219.toList = ([] : List UInt8)
              · rw [if_pos c18] at H
                have c18b0 : (t219.toList == ([] : List UInt8)) = true := beq_iff_eq.mpr c18
                have c18b1 : (t219.toList != ([] : List UInt8)) = false := bne_eq_false_iff_eq.mpr c18
                clear c18
                by_cases c19 : t220 = true
                · subst c19
                  have H1 : ((wharflaw16_live.f kj12).bind fun t225 => (some t225)) = some r := by rw [if_pos rfl] at H; exact H
                  clear H
                  have H := H1
                  clear H1
                  replace H := Option.bind_eq_some_iff.mp H
                  obtain ⟨t225, A200, H⟩ := H
                  replace H : (some t225) = some r := H
                  have A20 := Aside0.mk A200
                  clear A200
                  obtain rfl := Option.some.inj H
                  go_wp2_with (first | (go_at_call 8; (with_reducible refine (wharflaw16_live.calls kj12  t225 _ A20.out).mono ?_); rintro e w21 ⟨rfl, hb⟩; have n0_ := Aside0.mk (below_step (by repeat (first | (with_reducible first | exact HB.out | apply below_alloc | apply pw_below_drewN | apply below_drew1) | exact HB.out)) hb); clear HB; have HB := n0_; clear n0_; (try clear hb); (try clear hb2); (try clear hk); (try clear hi)))
                  go_ret
                  exact ⟨by first | rfl | (simp [errW_none, errW_some] <;> rfl) | (simp [*, errW_none, errW_some] <;> rfl), by repeat (first | (with_reducible first | exact HB.out | apply below_alloc | apply pw_below_drewN | apply below_drew1) | exact HB.out)⟩
                · replace c19 := Bool.eq_false_iff.mpr c19
                  subst c19
                  have H1 : ((wharflaw16_live.f kj12).bind fun t226 => (some t226)) = some r := by rw [if_neg (show ¬ (false = true) by decide)] at H; exact H
                  clear H
                  have H := H1
                  clear H1
                  replace H := Option.bind_eq_some_iff.mp H
                  obtain ⟨t226, A220, H⟩ := H
                  replace H : (some t226) = some r := H
                  have A22 := Aside0.mk A220
                  clear A220
                  obtain rfl := Option.some.inj H
                  go_wp2_with (first | (go_at_call 8; (with_reducible refine (wharflaw16_live.calls kj12  t226 _ A22.out).mono ?_); rintro e w23 ⟨rfl, hb⟩; have n0_ := Aside0.mk (below_step (by repeat (first | (with_reducible first | exact HB.out | apply below_alloc | apply pw_below_drewN | apply below_drew1) | exact HB.out)) hb); clear HB; have HB := n0_; clear n0_; (try clear hb); (try clear hb2); (try clear hk); (try clear hi)))
                  go_ret
                  exact ⟨by first | rfl | (simp [errW_none, errW_some] <;> rfl) | (simp [*, errW_none, errW_some] <;> rfl), by repeat (first | (with_reducible first | exact HB.out | apply below_alloc | apply pw_below_drewN | apply below_drew1) | exact HB.out)⟩
              · rw [if_neg c18] at H
                have c18b0 : (t219.toList == ([] : List UInt8)) = false := beq_eq_false_iff_ne.mpr c18
                have c18b1 : (t219.toList != ([] : List UInt8)) = true := bne_iff_ne.mpr c18
                by_cases c24 : t219.toList = ([97, 119, 97, 121] : List UInt8)
                · rw [if_pos c24] at H
                  have c24b0 : (t219.toList == ([97, 119, 97, 121] : List UInt8)) = true := beq_iff_eq.mpr c24
                  have c24b1 : (t219.toList != ([97, 119, 97, 121] : List UInt8)) = false := bne_eq_false_iff_eq.mpr c24
                  clear c24
                  by_cases c25 : t220 = true
                  · subst c25
                    have H1 : ((shade_Status.f t219).bind fun t227 => (if t227 = 0 then (some false) else ((wharflaw16_live.f kj12).bind fun t228 => (some t228)))) = some r := by rw [if_pos rfl] at H; exact H
                    clear H
                    have H := H1
                    clear H1
                    replace H := Option.bind_eq_some_iff.mp H
                    obtain ⟨t227, A260, H⟩ := H
                    replace H : (if t227 = 0 then (some false) else ((wharflaw16_live.f kj12).bind fun t228 => (some t228))) = some r := H
                    have A26 := Aside0.mk A260
                    clear A260
                    by_cases c27 : t227 = 0
                    · rw [if_pos c27] at H
                      have c27b0 : (t227 == 0) = true := beq_iff_eq.mpr c27
                      have c27b1 : (t227 != 0) = false := bne_eq_false_iff_eq.mpr c27
                      clear c27
                      exact absurd (Option.some.inj H) (by rw [HT_.out]; exact Bool.false_ne_true)
                    · rw [if_neg c27] at H
                      have c27b0 : (t227 == 0) = false := beq_eq_false_iff_ne.mpr c27
                      have c27b1 : (t227 != 0) = true := bne_iff_ne.mpr c27
                      replace H := Option.bind_eq_some_iff.mp H
                      obtain ⟨t228, A280, H⟩ := H
                      replace H : (some t228) = some r := H
                      have A28 := Aside0.mk A280
                      clear A280
                      obtain rfl := Option.some.inj H
                      go_wp2_with (first | (go_at_call 11; (with_reducible refine (shade_Status.calls t219 t227 _ A26.out).mono ?_); rintro e w' ⟨rfl, ⟨nd, rfl⟩⟩) | (go_at_call 8; (with_reducible refine (wharflaw16_live.calls kj12  t228 _ A28.out).mono ?_); rintro e w29 ⟨rfl, hb⟩; have n0_ := Aside0.mk (below_step (by repeat (first | (with_reducible first | exact HB.out | apply below_alloc | apply pw_below_drewN | apply below_drew1) | exact HB.out)) hb); clear HB; have HB := n0_; clear n0_; (try clear hb); (try clear hb2); (try clear hk); (try clear hi)))
                      go_ret
                      exact ⟨by first | rfl | (simp [errW_none, errW_some] <;> rfl) | (simp [*, errW_none, errW_some] <;> rfl), by repeat (first | (with_reducible first | exact HB.out | apply below_alloc | apply pw_below_drewN | apply below_drew1) | exact HB.out)⟩
                  · replace c25 := Bool.eq_false_iff.mpr c25
                    subst c25
                    have H1 : ((wharflaw16_live.f kj12).bind fun t229 => (some t229)) = some r := by rw [if_neg (show ¬ (false = true) by decide)] at H; exact H
                    clear H
                    have H := H1
                    clear H1
                    replace H := Option.bind_eq_some_iff.mp H
                    obtain ⟨t229, A300, H⟩ := H
                    replace H : (some t229) = some r := H
                    have A30 := Aside0.mk A300
                    clear A300
                    obtain rfl := Option.some.inj H
                    go_wp2_with (first | (go_at_call 8; (with_reducible refine (wharflaw16_live.calls kj12  t229 _ A30.out).mono ?_); rintro e w31 ⟨rfl, hb⟩; have n0_ := Aside0.mk (below_step (by repeat (first | (with_reducible first | exact HB.out | apply below_alloc | apply pw_below_drewN | apply below_drew1) | exact HB.out)) hb); clear HB; have HB := n0_; clear n0_; (try clear hb); (try clear hb2); (try clear hk); (try clear hi)))
                    go_ret
                    exact ⟨by first | rfl | (simp [errW_none, errW_some] <;> rfl) | (simp [*, errW_none, errW_some] <;> rfl), by repeat (first | (with_reducible first | exact HB.out | apply below_alloc | apply pw_below_drewN | apply below_drew1) | exact HB.out)⟩
                · rw [if_neg c24] at H
                  have c24b0 : (t219.toList == ([97, 119, 97, 121] : List UInt8)) = false := beq_eq_false_iff_ne.mpr c24
                  have c24b1 : (t219.toList != ([97, 119, 97, 121] : List UInt8)) = true := bne_iff_ne.mpr c24
                  by_cases c32 : t219.toList = ([99, 104, 97, 116] : List UInt8)
                  · rw [if_pos c32] at H
                    have c32b0 : (t219.toList == ([99, 104, 97, 116] : List UInt8)) = true := beq_iff_eq.mpr c32
                    have c32b1 : (t219.toList != ([99, 104, 97, 116] : List UInt8)) = false := bne_eq_false_iff_eq.mpr c32
                    clear c32
                    by_cases c33 : t220 = true
                    · subst c33
                      have H1 : ((shade_Status.f t219).bind fun t230 => (if t230 = 0 then (some false) else ((wharflaw16_live.f kj12).bind fun t231 => (some t231)))) = some r := by rw [if_pos rfl] at H; exact H
                      clear H
                      have H := H1
                      clear H1
                      replace H := Option.bind_eq_some_iff.mp H
                      obtain ⟨t230, A340, H⟩ := H
                      replace H : (if t230 = 0 then (some false) else ((wharflaw16_live.f kj12).bind fun t231 => (some t231))) = some r := H
                      have A34 := Aside0.mk A340
                      clear A340
                      by_cases c35 : t230 = 0
                      · rw [if_pos c35] at H
                        have c35b0 : (t230 == 0) = true := beq_iff_eq.mpr c35
                        have c35b1 : (t230 != 0) = false := bne_eq_false_iff_eq.mpr c35
                        clear c35
                        exact absurd (Option.some.inj H) (by rw [HT_.out]; exact Bool.false_ne_true)
                      · rw [if_neg c35] at H
                        have c35b0 : (t230 == 0) = false := beq_eq_false_iff_ne.mpr c35
                        have c35b1 : (t230 != 0) = true := bne_iff_ne.mpr c35
                        replace H := Option.bind_eq_some_iff.mp H
                        obtain ⟨t231, A360, H⟩ := H
                        replace H : (some t231) = some r := H
                        have A36 := Aside0.mk A360
                        clear A360
                        obtain rfl := Option.some.inj H
                        go_wp2_with (first | (go_at_call 11; (with_reducible refine (shade_Status.calls t219 t230 _ A34.out).mono ?_); rintro e w' ⟨rfl, ⟨nd, rfl⟩⟩) | (go_at_call 8; (with_reducible refine (wharflaw16_live.calls kj12  t231 _ A36.out).mono ?_); rintro e w37 ⟨rfl, hb⟩; have n0_ := Aside0.mk (below_step (by repeat (first | (with_reducible first | exact HB.out | apply below_alloc | apply pw_below_drewN | apply below_drew1) | exact HB.out)) hb); clear HB; have HB := n0_; clear n0_; (try clear hb); (try clear hb2); (try clear hk); (try clear hi)))
                        go_ret
                        exact ⟨by first | rfl | (simp [errW_none, errW_some] <;> rfl) | (simp [*, errW_none, errW_some] <;> rfl), by repeat (first | (with_reducible first | exact HB.out | apply below_alloc | apply pw_below_drewN | apply below_drew1) | exact HB.out)⟩
                    · replace c33 := Bool.eq_false_iff.mpr c33
                      subst c33
                      have H1 : ((wharflaw16_live.f kj12).bind fun t232 => (some t232)) = some r := by rw [if_neg (show ¬ (false = true) by decide)] at H; exact H
                      clear H
                      have H := H1
                      clear H1
                      replace H := Option.bind_eq_some_iff.mp H
                      obtain ⟨t232, A380, H⟩ := H
                      replace H : (some t232) = some r := H
                      have A38 := Aside0.mk A380
                      clear A380
                      obtain rfl := Option.some.inj H
                      go_wp2_with (first | (go_at_call 8; (with_reducible refine (wharflaw16_live.calls kj12  t232 _ A38.out).mono ?_); rintro e w39 ⟨rfl, hb⟩; have n0_ := Aside0.mk (below_step (by repeat (first | (with_reducible first | exact HB.out | apply below_alloc | apply pw_below_drewN | apply below_drew1) | exact HB.out)) hb); clear HB; have HB := n0_; clear n0_; (try clear hb); (try clear hb2); (try clear hk); (try clear hi)))
                      go_ret
                      exact ⟨by first | rfl | (simp [errW_none, errW_some] <;> rfl) | (simp [*, errW_none, errW_some] <;> rfl), by repeat (first | (with_reducible first | exact HB.out | apply below_alloc | apply pw_below_drewN | apply below_drew1) | exact HB.out)⟩
                  · rw [if_neg c32] at H
                    have c32b0 : (t219.toList == ([99, 104, 97, 116] : List UInt8)) = false := beq_eq_false_iff_ne.mpr c32
                    have c32b1 : (t219.toList != ([99, 104, 97, 116] : List UInt8)) = true := bne_iff_ne.mpr c32
                    by_cases c40 : t219.toList = ([100, 110, 100] : List UInt8)
                    · rw [if_pos c40] at H
                      have c40b0 : (t219.toList == ([100, 110, 100] : List UInt8)) = true := beq_iff_eq.mpr c40
                      have c40b1 : (t219.toList != ([100, 110, 100] : List UInt8)) = false := bne_eq_false_iff_eq.mpr c40
                      clear c40
                      by_cases c41 : t220 = true
                      · subst c41
                        have H1 : ((shade_Status.f t219).bind fun t233 => (if t233 = 0 then (some false) else ((wharflaw16_live.f kj12).bind fun t234 => (some t234)))) = some r := by rw [if_pos rfl] at H; exact H
                        clear H
                        have H := H1
                        clear H1
                        replace H := Option.bind_eq_some_iff.mp H
                        obtain ⟨t233, A420, H⟩ := H
                        replace H : (if t233 = 0 then (some false) else ((wharflaw16_live.f kj12).bind fun t234 => (some t234))) = some r := H
                        have A42 := Aside0.mk A420
                        clear A420
                        by_cases c43 : t233 = 0
                        · rw [if_pos c43] at H
                          have c43b0 : (t233 == 0) = true := beq_iff_eq.mpr c43
                          have c43b1 : (t233 != 0) = false := bne_eq_false_iff_eq.mpr c43
                          clear c43
                          exact absurd (Option.some.inj H) (by rw [HT_.out]; exact Bool.false_ne_true)
                        · rw [if_neg c43] at H
                          have c43b0 : (t233 == 0) = false := beq_eq_false_iff_ne.mpr c43
                          have c43b1 : (t233 != 0) = true := bne_iff_ne.mpr c43
                          replace H := Option.bind_eq_some_iff.mp H
                          obtain ⟨t234, A440, H⟩ := H
                          replace H : (some t234) = some r := H
                          have A44 := Aside0.mk A440
                          clear A440
                          obtain rfl := Option.some.inj H
                          go_wp2_with (first | (go_at_call 11; (with_reducible refine (shade_Status.calls t219 t233 _ A42.out).mono ?_); rintro e w' ⟨rfl, ⟨nd, rfl⟩⟩) | (go_at_call 8; (with_reducible refine (wharflaw16_live.calls kj12  t234 _ A44.out).mono ?_); rintro e w45 ⟨rfl, hb⟩; have n0_ := Aside0.mk (below_step (by repeat (first | (with_reducible first | exact HB.out | apply below_alloc | apply pw_below_drewN | apply below_drew1) | exact HB.out)) hb); clear HB; have HB := n0_; clear n0_; (try clear hb); (try clear hb2); (try clear hk); (try clear hi)))
                          go_ret
                          exact ⟨by first | rfl | (simp [errW_none, errW_some] <;> rfl) | (simp [*, errW_none, errW_some] <;> rfl), by repeat (first | (with_reducible first | exact HB.out | apply below_alloc | apply pw_below_drewN | apply below_drew1) | exact HB.out)⟩
                      · replace c41 := Bool.eq_false_iff.mpr c41
                        subst c41
                        have H1 : ((wharflaw16_live.f kj12).bind fun t235 => (some t235)) = some r := by rw [if_neg (show ¬ (false = true) by decide)] at H; exact H
                        clear H
                        have H := H1
                        clear H1
                        replace H := Option.bind_eq_some_iff.mp H
                        obtain ⟨t235, A460, H⟩ := H
                        replace H : (some t235) = some r := H
                        have A46 := Aside0.mk A460
                        clear A460
                        obtain rfl := Option.some.inj H
                        go_wp2_with (first | (go_at_call 8; (with_reducible refine (wharflaw16_live.calls kj12  t235 _ A46.out).mono ?_); rintro e w47 ⟨rfl, hb⟩; have n0_ := Aside0.mk (below_step (by repeat (first | (with_reducible first | exact HB.out | apply below_alloc | apply pw_below_drewN | apply below_drew1) | exact HB.out)) hb); clear HB; have HB := n0_; clear n0_; (try clear hb); (try clear hb2); (try clear hk); (try clear hi)))
                        go_ret
                        exact ⟨by first | rfl | (simp [errW_none, errW_some] <;> rfl) | (simp [*, errW_none, errW_some] <;> rfl), by repeat (first | (with_reducible first | exact HB.out | apply below_alloc | apply pw_below_drewN | apply below_drew1) | exact HB.out)⟩
                    · rw [if_neg c40] at H
                      have c40b0 : (t219.toList == ([100, 110, 100] : List UInt8)) = false := beq_eq_false_iff_ne.mpr c40
                      have c40b1 : (t219.toList != ([100, 110, 100] : List UInt8)) = true := bne_iff_ne.mpr c40
                      by_cases c48 : t219.toList = ([120, 97] : List UInt8)
                      · rw [if_pos c48] at H
                        have c48b0 : (t219.toList == ([120, 97] : List UInt8)) = true := beq_iff_eq.mpr c48
                        have c48b1 : (t219.toList != ([120, 97] : List UInt8)) = false := bne_eq_false_iff_eq.mpr c48
                        clear c48
                        by_cases c49 : t220 = true
                        · subst c49
                          have H1 : ((shade_Status.f t219).bind fun t236 => (if t236 = 0 then (some false) else ((wharflaw16_live.f kj12).bind fun t237 => (some t237)))) = some r := by rw [if_pos rfl] at H; exact H
                          clear H
                          have H := H1
                          clear H1
                          replace H := Option.bind_eq_some_iff.mp H
                          obtain ⟨t236, A500, H⟩ := H
                          replace H : (if t236 = 0 then (some false) else ((wharflaw16_live.f kj12).bind fun t237 => (some t237))) = some r := H
                          have A50 := Aside0.mk A500
                          clear A500
                          by_cases c51 : t236 = 0
                          · rw [if_pos c51] at H
                            have c51b0 : (t236 == 0) = true := beq_iff_eq.mpr c51
                            have c51b1 : (t236 != 0) = false := bne_eq_false_iff_eq.mpr c51
                            clear c51
                            exact absurd (Option.some.inj H) (by rw [HT_.out]; exact Bool.false_ne_true)
                          · rw [if_neg c51] at H
                            have c51b0 : (t236 == 0) = false := beq_eq_false_iff_ne.mpr c51
                            have c51b1 : (t236 != 0) = true := bne_iff_ne.mpr c51
                            replace H := Option.bind_eq_some_iff.mp H
                            obtain ⟨t237, A520, H⟩ := H
                            replace H : (some t237) = some r := H
                            have A52 := Aside0.mk A520
                            clear A520
                            obtain rfl := Option.some.inj H
                            go_wp2_with (first | (go_at_call 11; (with_reducible refine (shade_Status.calls t219 t236 _ A50.out).mono ?_); rintro e w' ⟨rfl, ⟨nd, rfl⟩⟩) | (go_at_call 8; (with_reducible refine (wharflaw16_live.calls kj12  t237 _ A52.out).mono ?_); rintro e w53 ⟨rfl, hb⟩; have n0_ := Aside0.mk (below_step (by repeat (first | (with_reducible first | exact HB.out | apply below_alloc | apply pw_below_drewN | apply below_drew1) | exact HB.out)) hb); clear HB; have HB := n0_; clear n0_; (try clear hb); (try clear hb2); (try clear hk); (try clear hi)))
                            go_ret
                            exact ⟨by first | rfl | (simp [errW_none, errW_some] <;> rfl) | (simp [*, errW_none, errW_some] <;> rfl), by repeat (first | (with_reducible first | exact HB.out | apply below_alloc | apply pw_below_drewN | apply below_drew1) | exact HB.out)⟩
                        · replace c49 := Bool.eq_false_iff.mpr c49
                          subst c49
                          have H1 : ((wharflaw16_live.f kj12).bind fun t238 => (some t238)) = some r := by rw [if_neg (show ¬ (false = true) by decide)] at H; exact H
                          clear H
                          have H := H1
                          clear H1
                          replace H := Option.bind_eq_some_iff.mp H
                          obtain ⟨t238, A540, H⟩ := H
                          replace H : (some t238) = some r := H
                          have A54 := Aside0.mk A540
                          clear A540
                          obtain rfl := Option.some.inj H
                          go_wp2_with (first | (go_at_call 8; (with_reducible refine (wharflaw16_live.calls kj12  t238 _ A54.out).mono ?_); rintro e w55 ⟨rfl, hb⟩; have n0_ := Aside0.mk (below_step (by repeat (first | (with_reducible first | exact HB.out | apply below_alloc | apply pw_below_drewN | apply below_drew1) | exact HB.out)) hb); clear HB; have HB := n0_; clear n0_; (try clear hb); (try clear hb2); (try clear hk); (try clear hi)))
                          go_ret
                          exact ⟨by first | rfl | (simp [errW_none, errW_some] <;> rfl) | (simp [*, errW_none, errW_some] <;> rfl), by repeat (first | (with_reducible first | exact HB.out | apply below_alloc | apply pw_below_drewN | apply below_drew1) | exact HB.out)⟩
                      · rw [if_neg c48] at H
                        have c48b0 : (t219.toList == ([120, 97] : List UInt8)) = false := beq_eq_false_iff_ne.mpr c48
                        have c48b1 : (t219.toList != ([120, 97] : List UInt8)) = true := bne_iff_ne.mpr c48
                        exact absurd (Option.some.inj H) (by rw [HT_.out]; exact Bool.false_ne_true)

end Go.Proofs.Ytaaoaikfkgbfhaa.H
