-- written by hp.py for this claim, out of the kit's printer and texts of my own
import Derived.Test.YtaaoaikfkgbfhaaHx0
import Derived.Test.YtaaoaikfkgbfhaaHx8
import Derived.Test.YtaaoaikfkgbfhaaHx9
import Derived.Test.YtaaoaikfkgbfhaaHx11
import Derived.Test.YtaaoaikfkgbfhaaHx13
import Derived.Test.YtaaoaikfkgbfhaaHx15
import Derived.Test.YtaaoaikfkgbfhaaHx17
import Derived.Test.YtaaoaikfkgbfhaaHx19
import Derived.Test.YtaaoaikfkgbfhaaHx21
namespace Go.Proofs.Ytaaoaikfkgbfhaa.H
open Go.RowKit Go.Proofs.YtaaoaikfkgbfhaaW.PrintWords Go.Proofs.YtaaoaikfkgbfhaaW.PrintLast Go.Proofs.YtaaoaikfkgbfhaaW.PrintMore
attribute [local go_sem] max2_int min2_int max_two min_two max_three min_three max_four min_four   -- for this text's walks alone
set_option linter.unusedVariables false
set_option linter.unusedSimpArgs false

/-! ### wharflaw16_ShadeBack: function 5 -/
mutual
def wharflaw16_ShadeBack.j0 : Nat → ByteArray → ByteArray → Int → Bool → Option (Bool)
  | 0, _, _, _, _ => none
  | k + 1, x0, x1, x2, x27 => if x27 = true then ((wharflaw16_live.f k).bind fun t194 => (some t194)) else ((shade_Status.f x1).bind fun t195 => ((shade_Show.f k t195).bind fun bt196 => (if bt196.2 = true then ((shade_Status.f bt196.1).bind fun t198 => ((shade_Status.f x1).bind fun t199 => (if t198 = t199 then (if x2 ≥ 0 then (if x2 ≤ 65535 then ((shade_Seconds.f x2).bind fun t200 => ((shade_Minutes.f t200).bind fun t201 => (wharflaw16_ShadeBack.j1 k x0 (t201 != x2)))) else (wharflaw16_ShadeBack.j1 k x0 false)) else (wharflaw16_ShadeBack.j1 k x0 false)) else (wharflaw16_ShadeBack.j1 k x0 true)))) else (wharflaw16_ShadeBack.j1 k x0 true))))
def wharflaw16_ShadeBack.j1 : Nat → ByteArray → Bool → Option (Bool)
  | 0, _, _ => none
  | k + 1, x0, x58 => if x58 = true then (some false) else ((shade_ToHtml.f x0 (wrap64 (10 * (x0.size : Int)))).bind fun t202 => ((shade_FromHtml.f t202).bind fun t203 => (if t203.toList = x0.toList then ((wharflaw16_live.f k).bind fun t204 => (some t204)) else (some false))))
end
def wharflaw16_ShadeBack.f (k : Nat) (a0 : ByteArray) (a1 : ByteArray) (a2 : Int) : Option (Bool) := (wharfref01_Signs.f k a0).bind fun bt190 => (if (a0.size : Int) > 5000 then (wharflaw16_ShadeBack.j0 k a0 a1 a2 true) else (if (a1.size : Int) > 5000 then (wharflaw16_ShadeBack.j0 k a0 a1 a2 true) else (wharflaw16_ShadeBack.j0 k a0 a1 a2 (!bt190.2))))
theorem wharflaw16_ShadeBack.mono_l : ∀ k, (∀ y0 y1 y2 y3, LeO (wharflaw16_ShadeBack.j0 k y0 y1 y2 y3) (wharflaw16_ShadeBack.j0 (k + 1) y0 y1 y2 y3)) ∧ (∀ y0 y1, LeO (wharflaw16_ShadeBack.j1 k y0 y1) (wharflaw16_ShadeBack.j1 (k + 1) y0 y1))
  | 0 => ⟨fun _ _ _ _ r h => by simp [wharflaw16_ShadeBack.j0] at h, fun _ _ r h => by simp [wharflaw16_ShadeBack.j1] at h⟩
  | k + 1 => by
    obtain ⟨ih0, ih1⟩ := wharflaw16_ShadeBack.mono_l k
    refine ⟨?_, ?_⟩
    · intro y0 y1 y2 y3
      unfold wharflaw16_ShadeBack.j0
      repeat' first
      | (with_reducible exact ih0 _ _ _ _)
      | (with_reducible exact ih1 _ _)
      | (with_reducible exact shade_Show.mono _ _)
      | (with_reducible exact wharflaw16_live.mono _)
      | (with_reducible exact wharfref01_Signs.mono _ _)
      | (with_reducible exact LeO.refl _)
      | (with_reducible exact LeO.none _)
      | (with_reducible refine LeO.ite ?_ ?_)
      | (with_reducible refine LeO.bind ?_ (fun _ => ?_))
      | exact ih0 _ _ _ _
      | exact ih1 _ _
      | exact shade_Show.mono _ _
      | exact wharflaw16_live.mono _
      | exact wharfref01_Signs.mono _ _
      | exact LeO.none _
      | refine LeO.ite ?_ ?_
      | refine LeO.bind ?_ (fun _ => ?_)
    · intro y0 y1
      unfold wharflaw16_ShadeBack.j1
      repeat' first
      | (with_reducible exact ih0 _ _ _ _)
      | (with_reducible exact ih1 _ _)
      | (with_reducible exact shade_Show.mono _ _)
      | (with_reducible exact wharflaw16_live.mono _)
      | (with_reducible exact wharfref01_Signs.mono _ _)
      | (with_reducible exact LeO.refl _)
      | (with_reducible exact LeO.none _)
      | (with_reducible refine LeO.ite ?_ ?_)
      | (with_reducible refine LeO.bind ?_ (fun _ => ?_))
      | exact ih0 _ _ _ _
      | exact ih1 _ _
      | exact shade_Show.mono _ _
      | exact wharflaw16_live.mono _
      | exact wharfref01_Signs.mono _ _
      | exact LeO.none _
      | refine LeO.ite ?_ ?_
      | refine LeO.bind ?_ (fun _ => ?_)
theorem wharflaw16_ShadeBack.mono : ∀ a0 a1 a2 k, LeO (wharflaw16_ShadeBack.f k a0 a1 a2) (wharflaw16_ShadeBack.f (k + 1) a0 a1 a2) := by
  intro a0 a1 a2 k
  obtain ⟨ih0, ih1⟩ := wharflaw16_ShadeBack.mono_l k
  unfold wharflaw16_ShadeBack.f
  repeat' first
      | (with_reducible exact ih0 _ _ _ _)
      | (with_reducible exact ih1 _ _)
      | (with_reducible exact shade_Show.mono _ _)
      | (with_reducible exact wharflaw16_live.mono _)
      | (with_reducible exact wharfref01_Signs.mono _ _)
      | (with_reducible exact LeO.refl _)
      | (with_reducible exact LeO.none _)
      | (with_reducible refine LeO.ite ?_ ?_)
      | (with_reducible refine LeO.bind ?_ (fun _ => ?_))
      | exact ih0 _ _ _ _
      | exact ih1 _ _
      | exact shade_Show.mono _ _
      | exact wharflaw16_live.mono _
      | exact wharfref01_Signs.mono _ _
      | exact LeO.none _
      | refine LeO.ite ?_ ?_
      | refine LeO.bind ?_ (fun _ => ?_)
set_option maxHeartbeats 8000000 in
set_option maxRecDepth 100000 in
theorem wharflaw16_ShadeBack.callsT (k : Nat) (a0 : ByteArray) (a1 : ByteArray) (a2 : Int) (r : Bool) (w : World) (HT_ : Aside0 (r = true)) (h : wharflaw16_ShadeBack.f k a0 a1 a2 = some r) :
    Calls Try.prog 5 #[.string a0, .string a1, .int .i64 a2] w fun e w' => e = .returned (.bool r) ∧ Below w.heap.size w w' := by
  have HB := Aside0.mk (Below.refl w.heap.size w)
  have H : ((wharfref01_Signs.f k a0).bind fun bt190 => (if (a0.size : Int) > 5000 then (wharflaw16_ShadeBack.j0 k a0 a1 a2 true) else (if (a1.size : Int) > 5000 then (wharflaw16_ShadeBack.j0 k a0 a1 a2 true) else (wharflaw16_ShadeBack.j0 k a0 a1 a2 (!bt190.2))))) = some r := h
  clear h
  replace H := Option.bind_eq_some_iff.mp H
  obtain ⟨⟨t190, t191⟩, A40, H⟩ := H
  replace H : (if (a0.size : Int) > 5000 then (wharflaw16_ShadeBack.j0 k a0 a1 a2 true) else (if (a1.size : Int) > 5000 then (wharflaw16_ShadeBack.j0 k a0 a1 a2 true) else (wharflaw16_ShadeBack.j0 k a0 a1 a2 (!t191)))) = some r := H
  have A4 := Aside0.mk A40
  clear A40
  have HC5 := Aside0.mk H
  clear H
  go_enter Try.func5, Try.ntmps5
  go_upto_region 2 with (first | ((with_reducible refine gate_callee (f := 21) rfl ?_); refine goesL_ (some 13) rfl rfl Try.func21 (by kernel_rfl) rfl #[.string a0] rfl (by (try simp only [List.map_toArray, List.map_cons, List.map_nil]); first | done | rfl | (simp only [List.length_drop, List.length_take]; rfl)) ?_; (with_reducible refine (wharfref01_Signs.calls k a0 t190 t191 _ A4.out).mono ?_); rintro e w6 ⟨v192, rfl, ho0, hb⟩; refine ⟨_, rfl, ?_⟩; have n0_ := Aside0.mk (Kd.R_lower ho0 (below_size (by repeat (first | (with_reducible first | exact HB.out | apply below_alloc | apply pw_below_drewN | apply below_drew1) | exact HB.out)))); have n1_ := Aside0.mk (below_step (by repeat (first | (with_reducible first | exact HB.out | apply below_alloc | apply pw_below_drewN | apply below_drew1) | exact HB.out)) hb); clear HB; have HO193 := n0_; have HB := n1_; clear n0_ n1_; (try clear hb); (try clear hb2); (try clear hk); (try clear hi); (try clear ho0)))
  (try simp only [Act.put, List.setIfInBounds_toArray, List.set_cons_zero, List.set_cons_succ])
  go_cut [27] (fun v27 wc => ∃ (kq : Nat) (x27_4 : Bool), v27 = .bool x27_4 ∧ Aside0 (wharflaw16_ShadeBack.j0 kq a0 a1 a2 x27_4 = some r) ∧ Aside0 (kq ≤ k) ∧ Aside0 (Below w.heap.size w wc))
  case first =>
    have H := HC5.out
    clear HC5
    by_cases c7 : (a0.size : Int) > 5000
    · rw [if_pos c7] at H
      have c7b0 : decide (5000 < (a0.size : Int)) = true := decide_eq_true c7
      have c7b1 : decide (5000 < a0.size) = true := decide_eq_true (by omega)
      clear c7
      (first | rw [c7b0] | (simp only [i64_w, i32_w]; rw [c7b0]) | skip)
      have H' := Aside0.mk H
      clear H
      go_wp2
      go_meet
      case rel => exact ⟨_, (true), (by first | rfl | (simp; done) | (simp [*]; done)), H', ⟨by first | omega | exact Nat.le_refl _⟩, ⟨by repeat (first | (with_reducible first | exact HB.out | apply below_alloc | apply pw_below_drewN | apply below_drew1) | exact HB.out)⟩⟩
    · rw [if_neg c7] at H
      have c7b0 : decide (5000 < (a0.size : Int)) = false := decide_eq_false c7
      have c7b1 : decide (5000 < a0.size) = false := decide_eq_false (by omega)
      clear c7
      (first | rw [c7b0] | (simp only [i64_w, i32_w]; rw [c7b0]) | skip)
      by_cases c8 : (a1.size : Int) > 5000
      · rw [if_pos c8] at H
        have c8b0 : decide (5000 < (a1.size : Int)) = true := decide_eq_true c8
        have c8b1 : decide (5000 < a1.size) = true := decide_eq_true (by omega)
        clear c8
        have H' := Aside0.mk H
        clear H
        go_wp2
        go_meet
        case rel => exact ⟨_, (true), (by first | rfl | (simp; done) | (simp [*]; done)), H', ⟨by first | omega | exact Nat.le_refl _⟩, ⟨by repeat (first | (with_reducible first | exact HB.out | apply below_alloc | apply pw_below_drewN | apply below_drew1) | exact HB.out)⟩⟩
      · rw [if_neg c8] at H
        have c8b0 : decide (5000 < (a1.size : Int)) = false := decide_eq_false c8
        have c8b1 : decide (5000 < a1.size) = false := decide_eq_false (by omega)
        clear c8
        have H' := Aside0.mk H
        clear H
        go_wp2
        go_meet
        case rel => exact ⟨_, (!t191), (by first | rfl | (simp; done) | (simp [*]; done)), H', ⟨by first | omega | exact Nat.le_refl _⟩, ⟨by repeat (first | (with_reducible first | exact HB.out | apply below_alloc | apply pw_below_drewN | apply below_drew1) | exact HB.out)⟩⟩
  case rest =>
    clear HC5
    try clear c2
    try clear p2
    try clear c5
    try clear c7
    try clear c7b0
    try clear c7b1
    try clear c8
    try clear c8b0
    try clear c8b1
    obtain ⟨kq, x27_4, rfl, HA, HJ4, HB⟩ := hcut
    cases kq with
    | zero => exact absurd HA.out (by simp [wharflaw16_ShadeBack.j0])
    | succ kj4 =>
      have H := HA.out
      clear HA
      simp only [wharflaw16_ShadeBack.j0] at H
      by_cases c9 : x27_4 = true
      · subst c9
        have H1 : ((wharflaw16_live.f kj4).bind fun t194 => (some t194)) = some r := by rw [if_pos rfl] at H; exact H
        clear H
        have H := H1
        clear H1
        replace H := Option.bind_eq_some_iff.mp H
        obtain ⟨t194, A100, H⟩ := H
        replace H : (some t194) = some r := H
        have A10 := Aside0.mk A100
        clear A100
        obtain rfl := Option.some.inj H
        go_wp2_with (first | ((with_reducible refine gate_callee (f := 8) rfl ?_); refine goesL_ (some 28) rfl rfl Try.func8 (by kernel_rfl) rfl #[] rfl (by (try simp only [List.map_toArray, List.map_cons, List.map_nil]); first | done | rfl | (simp only [List.length_drop, List.length_take]; rfl)) ?_; (with_reducible refine (wharflaw16_live.calls kj4  t194 _ A10.out).mono ?_); rintro e w11 ⟨rfl, hb⟩; refine ⟨_, rfl, ?_⟩; have n0_ := Aside0.mk (below_step (by repeat (first | (with_reducible first | exact HB.out | apply below_alloc | apply pw_below_drewN | apply below_drew1) | exact HB.out)) hb); clear HB; have HB := n0_; clear n0_; (try clear hb); (try clear hb2); (try clear hk); (try clear hi)))
        go_ret
        exact ⟨by first | rfl | (simp [errW_none, errW_some] <;> rfl) | (simp [*, errW_none, errW_some] <;> rfl), by repeat (first | (with_reducible first | exact HB.out | apply below_alloc | apply pw_below_drewN | apply below_drew1) | exact HB.out)⟩
      · replace c9 := Bool.eq_false_iff.mpr c9
        subst c9
        have H1 : ((shade_Status.f a1).bind fun t195 => ((shade_Show.f kj4 t195).bind fun bt196 => (if bt196.2 = true then ((shade_Status.f bt196.1).bind fun t198 => ((shade_Status.f a1).bind fun t199 => (if t198 = t199 then (if a2 ≥ 0 then (if a2 ≤ 65535 then ((shade_Seconds.f a2).bind fun t200 => ((shade_Minutes.f t200).bind fun t201 => (wharflaw16_ShadeBack.j1 kj4 a0 (t201 != a2)))) else (wharflaw16_ShadeBack.j1 kj4 a0 false)) else (wharflaw16_ShadeBack.j1 kj4 a0 false)) else (wharflaw16_ShadeBack.j1 kj4 a0 true)))) else (wharflaw16_ShadeBack.j1 kj4 a0 true)))) = some r := by rw [if_neg (show ¬ (false = true) by decide)] at H; exact H
        clear H
        have H := H1
        clear H1
        replace H := Option.bind_eq_some_iff.mp H
        obtain ⟨t195, A120, H⟩ := H
        replace H : ((shade_Show.f kj4 t195).bind fun bt196 => (if bt196.2 = true then ((shade_Status.f bt196.1).bind fun t198 => ((shade_Status.f a1).bind fun t199 => (if t198 = t199 then (if a2 ≥ 0 then (if a2 ≤ 65535 then ((shade_Seconds.f a2).bind fun t200 => ((shade_Minutes.f t200).bind fun t201 => (wharflaw16_ShadeBack.j1 kj4 a0 (t201 != a2)))) else (wharflaw16_ShadeBack.j1 kj4 a0 false)) else (wharflaw16_ShadeBack.j1 kj4 a0 false)) else (wharflaw16_ShadeBack.j1 kj4 a0 true)))) else (wharflaw16_ShadeBack.j1 kj4 a0 true))) = some r := H
        have A12 := Aside0.mk A120
        clear A120
        replace H := Option.bind_eq_some_iff.mp H
        obtain ⟨⟨t196, t197⟩, A130, H⟩ := H
        replace H : (if t197 = true then ((shade_Status.f t196).bind fun t198 => ((shade_Status.f a1).bind fun t199 => (if t198 = t199 then (if a2 ≥ 0 then (if a2 ≤ 65535 then ((shade_Seconds.f a2).bind fun t200 => ((shade_Minutes.f t200).bind fun t201 => (wharflaw16_ShadeBack.j1 kj4 a0 (t201 != a2)))) else (wharflaw16_ShadeBack.j1 kj4 a0 false)) else (wharflaw16_ShadeBack.j1 kj4 a0 false)) else (wharflaw16_ShadeBack.j1 kj4 a0 true)))) else (wharflaw16_ShadeBack.j1 kj4 a0 true)) = some r := H
        have A13 := Aside0.mk A130
        clear A130
        have HC14 := Aside0.mk H
        clear H
        go_upto_region 5 with (first | ((with_reducible refine gate_callee (f := 11) rfl ?_); refine goesL_ (some 31) rfl rfl Try.func11 (by kernel_rfl) rfl #[.string a1] rfl (by (try simp only [List.map_toArray, List.map_cons, List.map_nil]); first | done | rfl | (simp only [List.length_drop, List.length_take]; rfl)) ?_; (with_reducible refine (shade_Status.calls a1 t195 _ A12.out).mono ?_); rintro e w' ⟨rfl, ⟨nd, rfl⟩⟩; refine ⟨_, rfl, ?_⟩) | ((with_reducible refine gate_callee (f := 9) rfl ?_); refine goesL_ (some 32) rfl rfl Try.func9 (by kernel_rfl) rfl #[.int .i64 t195] rfl (by (try simp only [List.map_toArray, List.map_cons, List.map_nil]); first | done | rfl | (simp only [List.length_drop, List.length_take]; rfl)) ?_; (with_reducible refine (shade_Show.calls kj4 t195 t196 t197 _ A13.out).mono ?_); rintro e w' ⟨rfl, ⟨nd, rfl⟩⟩; refine ⟨_, rfl, ?_⟩))
        (try simp only [Act.put, List.setIfInBounds_toArray, List.set_cons_zero, List.set_cons_succ])
        go_cut [58] (fun v58 wc => ∃ (kq : Nat) (x58_13 : Bool), v58 = .bool x58_13 ∧ Aside0 (wharflaw16_ShadeBack.j1 kq a0 x58_13 = some r) ∧ Aside0 (kq ≤ kj4) ∧ Aside0 (Below w.heap.size w wc))
        case first =>
          have H := HC14.out
          clear HC14
          by_cases c15 : t197 = true
          · subst c15
            have H1 : ((shade_Status.f t196).bind fun t198 => ((shade_Status.f a1).bind fun t199 => (if t198 = t199 then (if a2 ≥ 0 then (if a2 ≤ 65535 then ((shade_Seconds.f a2).bind fun t200 => ((shade_Minutes.f t200).bind fun t201 => (wharflaw16_ShadeBack.j1 kj4 a0 (t201 != a2)))) else (wharflaw16_ShadeBack.j1 kj4 a0 false)) else (wharflaw16_ShadeBack.j1 kj4 a0 false)) else (wharflaw16_ShadeBack.j1 kj4 a0 true)))) = some r := by rw [if_pos rfl] at H; exact H
            clear H
            have H := H1
            clear H1
            replace H := Option.bind_eq_some_iff.mp H
            obtain ⟨t198, A160, H⟩ := H
            replace H : ((shade_Status.f a1).bind fun t199 => (if t198 = t199 then (if a2 ≥ 0 then (if a2 ≤ 65535 then ((shade_Seconds.f a2).bind fun t200 => ((shade_Minutes.f t200).bind fun t201 => (wharflaw16_ShadeBack.j1 kj4 a0 (t201 != a2)))) else (wharflaw16_ShadeBack.j1 kj4 a0 false)) else (wharflaw16_ShadeBack.j1 kj4 a0 false)) else (wharflaw16_ShadeBack.j1 kj4 a0 true))) = some r := H
            have A16 := Aside0.mk A160
            clear A160
            replace H := Option.bind_eq_some_iff.mp H
            obtain ⟨t199, A170, H⟩ := H
            replace H : (if t198 = t199 then (if a2 ≥ 0 then (if a2 ≤ 65535 then ((shade_Seconds.f a2).bind fun t200 => ((shade_Minutes.f t200).bind fun t201 => (wharflaw16_ShadeBack.j1 kj4 a0 (t201 != a2)))) else (wharflaw16_ShadeBack.j1 kj4 a0 false)) else (wharflaw16_ShadeBack.j1 kj4 a0 false)) else (wharflaw16_ShadeBack.j1 kj4 a0 true)) = some r := H
            have A17 := Aside0.mk A170
            clear A170
            by_cases c18 : t198 = t199
            · rw [if_pos c18] at H
              have c18b0 : (t198 == t199) = true := beq_iff_eq.mpr c18
              have c18b1 : (t198 != t199) = false := bne_eq_false_iff_eq.mpr c18
              clear c18
              (first | rw [c18b0] | (simp only [i64_w, i32_w]; rw [c18b0]) | skip)
              by_cases c19 : a2 ≥ 0
              · rw [if_pos c19] at H
                have c19b0 : decide (0 ≤ a2) = true := decide_eq_true c19
                clear c19
                by_cases c20 : a2 ≤ 65535
                · rw [if_pos c20] at H
                  have c20b0 : decide (a2 ≤ 65535) = true := decide_eq_true c20
                  clear c20
                  replace H := Option.bind_eq_some_iff.mp H
                  obtain ⟨t200, A210, H⟩ := H
                  replace H : ((shade_Minutes.f t200).bind fun t201 => (wharflaw16_ShadeBack.j1 kj4 a0 (t201 != a2))) = some r := H
                  have A21 := Aside0.mk A210
                  clear A210
                  replace H := Option.bind_eq_some_iff.mp H
                  obtain ⟨t201, A220, H⟩ := H
                  replace H : (wharflaw16_ShadeBack.j1 kj4 a0 (t201 != a2)) = some r := H
                  have A22 := Aside0.mk A220
                  clear A220
                  have H' := Aside0.mk H
                  clear H
                  go_wp2_with (first | (go_at_call 11; (with_reducible refine (shade_Status.calls t196 t198 _ A16.out).mono ?_); rintro e w' ⟨rfl, ⟨nd, rfl⟩⟩) | (go_at_call 11; (with_reducible refine (shade_Status.calls a1 t199 _ A17.out).mono ?_); rintro e w' ⟨rfl, ⟨nd, rfl⟩⟩) | (go_at_call 13; (with_reducible refine (shade_Seconds.calls a2 t200 _ A21.out).mono ?_); rintro e w23 ⟨rfl, hb⟩; have n0_ := Aside0.mk (below_step (by repeat (first | (with_reducible first | exact HB.out | apply below_alloc | apply pw_below_drewN | apply below_drew1) | exact HB.out)) hb); clear HB; have HB := n0_; clear n0_; (try clear hb); (try clear hb2); (try clear hk); (try clear hi)) | (go_at_call 15; (with_reducible refine (shade_Minutes.calls t200 t201 _ A22.out).mono ?_); rintro e w24 ⟨rfl, hb⟩; have n0_ := Aside0.mk (below_step (by repeat (first | (with_reducible first | exact HB.out | apply below_alloc | apply pw_below_drewN | apply below_drew1) | exact HB.out)) hb); clear HB; have HB := n0_; clear n0_; (try clear hb); (try clear hb2); (try clear hk); (try clear hi)))
                  go_meet
                  case rel => exact ⟨_, ((t201 != a2)), (by first | rfl | (simp; done) | (simp [*]; done)), H', ⟨by have := HJ4.out; first | omega | exact Nat.le_refl _⟩, ⟨by repeat (first | (with_reducible first | exact HB.out | apply below_alloc | apply pw_below_drewN | apply below_drew1) | exact HB.out)⟩⟩
                · rw [if_neg c20] at H
                  have c20b0 : decide (a2 ≤ 65535) = false := decide_eq_false c20
                  clear c20
                  have H' := Aside0.mk H
                  clear H
                  go_wp2_with (first | (go_at_call 11; (with_reducible refine (shade_Status.calls t196 t198 _ A16.out).mono ?_); rintro e w' ⟨rfl, ⟨nd, rfl⟩⟩) | (go_at_call 11; (with_reducible refine (shade_Status.calls a1 t199 _ A17.out).mono ?_); rintro e w' ⟨rfl, ⟨nd, rfl⟩⟩))
                  go_meet
                  case rel => exact ⟨_, (false), (by first | rfl | (simp; done) | (simp [*]; done)), H', ⟨by have := HJ4.out; first | omega | exact Nat.le_refl _⟩, ⟨by repeat (first | (with_reducible first | exact HB.out | apply below_alloc | apply pw_below_drewN | apply below_drew1) | exact HB.out)⟩⟩
              · rw [if_neg c19] at H
                have c19b0 : decide (0 ≤ a2) = false := decide_eq_false c19
                clear c19
                have H' := Aside0.mk H
                clear H
                go_wp2_with (first | (go_at_call 11; (with_reducible refine (shade_Status.calls t196 t198 _ A16.out).mono ?_); rintro e w' ⟨rfl, ⟨nd, rfl⟩⟩) | (go_at_call 11; (with_reducible refine (shade_Status.calls a1 t199 _ A17.out).mono ?_); rintro e w' ⟨rfl, ⟨nd, rfl⟩⟩))
                go_meet
                case rel => exact ⟨_, (false), (by first | rfl | (simp; done) | (simp [*]; done)), H', ⟨by have := HJ4.out; first | omega | exact Nat.le_refl _⟩, ⟨by repeat (first | (with_reducible first | exact HB.out | apply below_alloc | apply pw_below_drewN | apply below_drew1) | exact HB.out)⟩⟩
            · rw [if_neg c18] at H
              have c18b0 : (t198 == t199) = false := beq_eq_false_iff_ne.mpr c18
              have c18b1 : (t198 != t199) = true := bne_iff_ne.mpr c18
              (first | rw [c18b0] | (simp only [i64_w, i32_w]; rw [c18b0]) | skip)
              have H' := Aside0.mk H
              clear H
              go_wp2_with (first | (go_at_call 11; (with_reducible refine (shade_Status.calls t196 t198 _ A16.out).mono ?_); rintro e w' ⟨rfl, ⟨nd, rfl⟩⟩) | (go_at_call 11; (with_reducible refine (shade_Status.calls a1 t199 _ A17.out).mono ?_); rintro e w' ⟨rfl, ⟨nd, rfl⟩⟩))
              go_meet
              case rel => exact ⟨_, (true), (by first | rfl | (simp; done) | (simp [*]; done)), H', ⟨by have := HJ4.out; first | omega | exact Nat.le_refl _⟩, ⟨by repeat (first | (with_reducible first | exact HB.out | apply below_alloc | apply pw_below_drewN | apply below_drew1) | exact HB.out)⟩⟩
          · replace c15 := Bool.eq_false_iff.mpr c15
            subst c15
            have H1 : (wharflaw16_ShadeBack.j1 kj4 a0 true) = some r := by rw [if_neg (show ¬ (false = true) by decide)] at H; exact H
            clear H
            have H := H1
            clear H1
            have H' := Aside0.mk H
            clear H
            go_wp2
            go_meet
            case rel => exact ⟨_, (true), (by first | rfl | (simp; done) | (simp [*]; done)), H', ⟨by have := HJ4.out; first | omega | exact Nat.le_refl _⟩, ⟨by repeat (first | (with_reducible first | exact HB.out | apply below_alloc | apply pw_below_drewN | apply below_drew1) | exact HB.out)⟩⟩
        case rest =>
          clear HC14
          try clear c1
          try clear c2
          try clear p2
          try clear c5
          try clear c7
          try clear c7b0
          try clear c7b1
          try clear c8
          try clear c8b0
          try clear c8b1
          try clear c9
          try clear c11
          try clear c15
          try clear c18
          try clear c18b0
          try clear c18b1
          try clear c19
          try clear c19b0
          try clear c20
          try clear c20b0
          try clear c21
          try clear p2
          obtain ⟨kq, x58_13, rfl, HA, HJ13, HB⟩ := hcut
          cases kq with
          | zero => exact absurd HA.out (by simp [wharflaw16_ShadeBack.j1])
          | succ kj13 =>
            have H := HA.out
            clear HA
            simp only [wharflaw16_ShadeBack.j1] at H
            by_cases c25 : x58_13 = true
            · subst c25
              have H1 : (some false) = some r := by rw [if_pos rfl] at H; exact H
              clear H
              have H := H1
              clear H1
              exact absurd (Option.some.inj H) (by rw [HT_.out]; exact Bool.false_ne_true)
            · replace c25 := Bool.eq_false_iff.mpr c25
              subst c25
              have H1 : ((shade_ToHtml.f a0 (wrap64 (10 * (a0.size : Int)))).bind fun t202 => ((shade_FromHtml.f t202).bind fun t203 => (if t203.toList = a0.toList then ((wharflaw16_live.f kj13).bind fun t204 => (some t204)) else (some false)))) = some r := by rw [if_neg (show ¬ (false = true) by decide)] at H; exact H
              clear H
              have H := H1
              clear H1
              replace H := Option.bind_eq_some_iff.mp H
              obtain ⟨t202, A260, H⟩ := H
              replace H : ((shade_FromHtml.f t202).bind fun t203 => (if t203.toList = a0.toList then ((wharflaw16_live.f kj13).bind fun t204 => (some t204)) else (some false))) = some r := H
              have A26 := Aside0.mk A260
              clear A260
              replace H := Option.bind_eq_some_iff.mp H
              obtain ⟨t203, A270, H⟩ := H
              replace H : (if t203.toList = a0.toList then ((wharflaw16_live.f kj13).bind fun t204 => (some t204)) else (some false)) = some r := H
              have A27 := Aside0.mk A270
              clear A270
              by_cases c28 : t203.toList = a0.toList
              · rw [if_pos c28] at H
                have c28b0 : (t203.toList == a0.toList) = true := beq_iff_eq.mpr c28
                have c28b1 : (t203.toList != a0.toList) = false := bne_eq_false_iff_eq.mpr c28
                clear c28
                replace H := Option.bind_eq_some_iff.mp H
                obtain ⟨t204, A290, H⟩ := H
                replace H : (some t204) = some r := H
                have A29 := Aside0.mk A290
                clear A290
                obtain rfl := Option.some.inj H
                go_wp2_with (first | ((with_reducible refine gate_callee (f := 17) rfl ?_); refine goesL_ (some 63) rfl rfl Try.func17 (by kernel_rfl) rfl #[.string a0, .int .i64 (wrap64 (10 * (a0.size : Int)))] rfl (by (try simp only [List.map_toArray, List.map_cons, List.map_nil]); first | done | rfl | (simp only [List.length_drop, List.length_take]; rfl)) ?_; (with_reducible refine (shade_ToHtml.calls a0 (wrap64 (10 * (a0.size : Int))) t202 _ A26.out).mono ?_); rintro e w30 ⟨rfl, hb⟩; refine ⟨_, rfl, ?_⟩; have n0_ := Aside0.mk (below_step (by repeat (first | (with_reducible first | exact HB.out | apply below_alloc | apply pw_below_drewN | apply below_drew1) | exact HB.out)) hb); clear HB; have HB := n0_; clear n0_; (try clear hb); (try clear hb2); (try clear hk); (try clear hi)) | ((with_reducible refine gate_callee (f := 19) rfl ?_); refine goesL_ (some 64) rfl rfl Try.func19 (by kernel_rfl) rfl #[.string t202] rfl (by (try simp only [List.map_toArray, List.map_cons, List.map_nil]); first | done | rfl | (simp only [List.length_drop, List.length_take]; rfl)) ?_; (with_reducible refine (shade_FromHtml.calls t202 t203 _ A27.out).mono ?_); rintro e w31 ⟨rfl, hb⟩; refine ⟨_, rfl, ?_⟩; have n0_ := Aside0.mk (below_step (by repeat (first | (with_reducible first | exact HB.out | apply below_alloc | apply pw_below_drewN | apply below_drew1) | exact HB.out)) hb); clear HB; have HB := n0_; clear n0_; (try clear hb); (try clear hb2); (try clear hk); (try clear hi)) | (go_at_call 8; (with_reducible refine (wharflaw16_live.calls kj13  t204 _ A29.out).mono ?_); rintro e w32 ⟨rfl, hb⟩; have n0_ := Aside0.mk (below_step (by repeat (first | (with_reducible first | exact HB.out | apply below_alloc | apply pw_below_drewN | apply below_drew1) | exact HB.out)) hb); clear HB; have HB := n0_; clear n0_; (try clear hb); (try clear hb2); (try clear hk); (try clear hi)))
                go_ret
                exact ⟨by first | rfl | (simp [errW_none, errW_some] <;> rfl) | (simp [*, errW_none, errW_some] <;> rfl), by repeat (first | (with_reducible first | exact HB.out | apply below_alloc | apply pw_below_drewN | apply below_drew1) | exact HB.out)⟩
              · rw [if_neg c28] at H
                have c28b0 : (t203.toList == a0.toList) = false := beq_eq_false_iff_ne.mpr c28
                have c28b1 : (t203.toList != a0.toList) = true := bne_iff_ne.mpr c28
                exact absurd (Option.some.inj H) (by rw [HT_.out]; exact Bool.false_ne_true)

end Go.Proofs.Ytaaoaikfkgbfhaa.H
