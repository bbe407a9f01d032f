-- written by hp.py for this claim, out of the kit's printer and texts of my own
import Derived.Test.YtaaoaikfkgbfhaaHx0
import Derived.Test.YtaaoaikfkgbfhaaHx8
import Derived.Test.YtaaoaikfkgbfhaaHx9
import Derived.Test.YtaaoaikfkgbfhaaHx10
import Derived.Test.YtaaoaikfkgbfhaaHx11
import Derived.Test.YtaaoaikfkgbfhaaHx12
import Derived.Test.YtaaoaikfkgbfhaaHx13
import Derived.Test.YtaaoaikfkgbfhaaHx14
import Derived.Test.YtaaoaikfkgbfhaaHx15
import Derived.Test.YtaaoaikfkgbfhaaHx16
namespace Go.Proofs.Ytaaoaikfkgbfhaa.H
open Go.RowKit Go.Proofs.YtaaoaikfkgbfhaaW.PrintWords Go.Proofs.YtaaoaikfkgbfhaaW.PrintLast Go.Proofs.YtaaoaikfkgbfhaaW.PrintMore
attribute [local go_sem] max2_int min2_int max_two min_two max_three min_three max_four min_four   -- for this text's walks alone
set_option linter.unusedVariables false
set_option linter.unusedSimpArgs false

/-! ### wharflaw16_ShadeStatuses: function 3 -/
def wharflaw16_ShadeStatuses.f (k : Nat) (a0 : Int) (a1 : ByteArray) (a2 : Int) : Option (Bool) := if (a1.size : Int) > 5000 then ((wharflaw16_live.f k).bind fun t122 => (some t122)) else ((shade_Show.f k a0).bind fun bt123 => ((wharfref16_Show.f k a0).bind fun bt125 => (if bt123.1.toList = bt125.1.toList then (if (bt123.2 == bt125.2) = true then ((shade_Status.f a1).bind fun t127 => ((wharfref16_Status.f a1).bind fun t128 => (if t127 = t128 then ((shade_Seconds.f a2).bind fun t129 => ((wharfref16_Seconds.f a2).bind fun t130 => (if t129 = t130 then ((shade_Minutes.f a2).bind fun t131 => ((wharfref16_Minutes.f a2).bind fun t132 => (if t131 = t132 then ((wharflaw16_live.f k).bind fun t133 => (some t133)) else (some false)))) else (some false)))) else (some false)))) else (some false)) else (some false))))
theorem wharflaw16_ShadeStatuses.mono : ∀ a0 a1 a2 k, LeO (wharflaw16_ShadeStatuses.f k a0 a1 a2) (wharflaw16_ShadeStatuses.f (k + 1) a0 a1 a2) := by
  intro a0 a1 a2 k
  unfold wharflaw16_ShadeStatuses.f
  repeat' first
      | (with_reducible exact shade_Show.mono _ _)
      | (with_reducible exact wharflaw16_live.mono _)
      | (with_reducible exact wharfref16_Show.mono _ _)
      | (with_reducible exact LeO.refl _)
      | (with_reducible exact LeO.none _)
      | (with_reducible refine LeO.ite ?_ ?_)
      | (with_reducible refine LeO.bind ?_ (fun _ => ?_))
      | exact shade_Show.mono _ _
      | exact wharflaw16_live.mono _
      | exact wharfref16_Show.mono _ _
      | exact LeO.none _
      | refine LeO.ite ?_ ?_
      | refine LeO.bind ?_ (fun _ => ?_)
set_option maxHeartbeats 8000000 in
set_option maxRecDepth 100000 in
theorem wharflaw16_ShadeStatuses.callsT (k : Nat) (a0 : Int) (a1 : ByteArray) (a2 : Int) (r : Bool) (w : World) (HT_ : Aside0 (r = true)) (h : wharflaw16_ShadeStatuses.f k a0 a1 a2 = some r) :
    Calls Try.prog 3 #[.int .i64 a0, .string a1, .int .i64 a2] w fun e w' => e = .returned (.bool r) ∧ Below w.heap.size w w' := by
  have HB := Aside0.mk (Below.refl w.heap.size w)
  have H : (if (a1.size : Int) > 5000 then ((wharflaw16_live.f k).bind fun t122 => (some t122)) else ((shade_Show.f k a0).bind fun bt123 => ((wharfref16_Show.f k a0).bind fun bt125 => (if bt123.1.toList = bt125.1.toList then (if (bt123.2 == bt125.2) = true then ((shade_Status.f a1).bind fun t127 => ((wharfref16_Status.f a1).bind fun t128 => (if t127 = t128 then ((shade_Seconds.f a2).bind fun t129 => ((wharfref16_Seconds.f a2).bind fun t130 => (if t129 = t130 then ((shade_Minutes.f a2).bind fun t131 => ((wharfref16_Minutes.f a2).bind fun t132 => (if t131 = t132 then ((wharflaw16_live.f k).bind fun t133 => (some t133)) else (some false)))) else (some false)))) else (some false)))) else (some false)) else (some false))))) = some r := h
  clear h
  by_cases c4 : (a1.size : Int) > 5000
  · rw [if_pos c4] at H
    have c4b0 : decide (5000 < (a1.size : Int)) = true := decide_eq_true c4
    have c4b1 : decide (5000 < a1.size) = true := decide_eq_true (by omega)
    clear c4
    replace H := Option.bind_eq_some_iff.mp H
    obtain ⟨t122, A50, H⟩ := H
    replace H : (some t122) = some r := H
    have A5 := Aside0.mk A50
    clear A50
    obtain rfl := Option.some.inj H
    go_enter Try.func3, Try.ntmps3
    go_wp2_with (first | ((with_reducible refine gate_callee (f := 8) rfl ?_); refine goesL_ (some 14) rfl rfl Try.func8 (by kernel_rfl) rfl #[] rfl (by (try simp only [List.map_toArray, List.map_cons, List.map_nil]); first | done | rfl | (simp only [List.length_drop, List.length_take]; rfl)) ?_; (with_reducible refine (wharflaw16_live.calls k  t122 _ A5.out).mono ?_); rintro e w6 ⟨rfl, hb⟩; refine ⟨_, rfl, ?_⟩; have n0_ := Aside0.mk (below_step (by repeat (first | (with_reducible first | exact HB.out | apply below_alloc | apply pw_below_drewN | apply below_drew1) | exact HB.out)) hb); clear HB; have HB := n0_; clear n0_; (try clear hb); (try clear hb2); (try clear hk); (try clear hi)))
    go_ret
    exact ⟨by first | rfl | (simp [errW_none, errW_some] <;> rfl) | (simp [*, errW_none, errW_some] <;> rfl), by repeat (first | (with_reducible first | exact HB.out | apply below_alloc | apply pw_below_drewN | apply below_drew1) | exact HB.out)⟩
  · rw [if_neg c4] at H
    have c4b0 : decide (5000 < (a1.size : Int)) = false := decide_eq_false c4
    have c4b1 : decide (5000 < a1.size) = false := decide_eq_false (by omega)
    clear c4
    replace H := Option.bind_eq_some_iff.mp H
    obtain ⟨⟨t123, t124⟩, A70, H⟩ := H
    replace H : ((wharfref16_Show.f k a0).bind fun bt125 => (if t123.toList = bt125.1.toList then (if (t124 == bt125.2) = true then ((shade_Status.f a1).bind fun t127 => ((wharfref16_Status.f a1).bind fun t128 => (if t127 = t128 then ((shade_Seconds.f a2).bind fun t129 => ((wharfref16_Seconds.f a2).bind fun t130 => (if t129 = t130 then ((shade_Minutes.f a2).bind fun t131 => ((wharfref16_Minutes.f a2).bind fun t132 => (if t131 = t132 then ((wharflaw16_live.f k).bind fun t133 => (some t133)) else (some false)))) else (some false)))) else (some false)))) else (some false)) else (some false))) = some r := H
    have A7 := Aside0.mk A70
    clear A70
    replace H := Option.bind_eq_some_iff.mp H
    obtain ⟨⟨t125, t126⟩, A80, H⟩ := H
    replace H : (if t123.toList = t125.toList then (if (t124 == t126) = true then ((shade_Status.f a1).bind fun t127 => ((wharfref16_Status.f a1).bind fun t128 => (if t127 = t128 then ((shade_Seconds.f a2).bind fun t129 => ((wharfref16_Seconds.f a2).bind fun t130 => (if t129 = t130 then ((shade_Minutes.f a2).bind fun t131 => ((wharfref16_Minutes.f a2).bind fun t132 => (if t131 = t132 then ((wharflaw16_live.f k).bind fun t133 => (some t133)) else (some false)))) else (some false)))) else (some false)))) else (some false)) else (some false)) = some r := H
    have A8 := Aside0.mk A80
    clear A80
    by_cases c9 : t123.toList = t125.toList
    · rw [if_pos c9] at H
      have c9b0 : (t123.toList == t125.toList) = true := beq_iff_eq.mpr c9
      have c9b1 : (t123.toList != t125.toList) = false := bne_eq_false_iff_eq.mpr c9
      clear c9
      by_cases c10 : (t124 == t126) = true
      · rw [if_pos c10] at H
        have c10b0 : (t124 == t126) = true := c10
        (try (have c10b1 : decide (t124 = t126) = true := by simpa using c10))
        (try (have c10b2 : (t124 == t126) = true := by simpa using c10))
        clear c10
        replace H := Option.bind_eq_some_iff.mp H
        obtain ⟨t127, A110, H⟩ := H
        replace H : ((wharfref16_Status.f a1).bind fun t128 => (if t127 = t128 then ((shade_Seconds.f a2).bind fun t129 => ((wharfref16_Seconds.f a2).bind fun t130 => (if t129 = t130 then ((shade_Minutes.f a2).bind fun t131 => ((wharfref16_Minutes.f a2).bind fun t132 => (if t131 = t132 then ((wharflaw16_live.f k).bind fun t133 => (some t133)) else (some false)))) else (some false)))) else (some false))) = some r := H
        have A11 := Aside0.mk A110
        clear A110
        replace H := Option.bind_eq_some_iff.mp H
        obtain ⟨t128, A120, H⟩ := H
        replace H : (if t127 = t128 then ((shade_Seconds.f a2).bind fun t129 => ((wharfref16_Seconds.f a2).bind fun t130 => (if t129 = t130 then ((shade_Minutes.f a2).bind fun t131 => ((wharfref16_Minutes.f a2).bind fun t132 => (if t131 = t132 then ((wharflaw16_live.f k).bind fun t133 => (some t133)) else (some false)))) else (some false)))) else (some false)) = some r := H
        have A12 := Aside0.mk A120
        clear A120
        by_cases c13 : t127 = t128
        · rw [if_pos c13] at H
          have c13b0 : (t127 == t128) = true := beq_iff_eq.mpr c13
          have c13b1 : (t127 != t128) = false := bne_eq_false_iff_eq.mpr c13
          clear c13
          replace H := Option.bind_eq_some_iff.mp H
          obtain ⟨t129, A140, H⟩ := H
          replace H : ((wharfref16_Seconds.f a2).bind fun t130 => (if t129 = t130 then ((shade_Minutes.f a2).bind fun t131 => ((wharfref16_Minutes.f a2).bind fun t132 => (if t131 = t132 then ((wharflaw16_live.f k).bind fun t133 => (some t133)) else (some false)))) else (some false))) = some r := H
          have A14 := Aside0.mk A140
          clear A140
          replace H := Option.bind_eq_some_iff.mp H
          obtain ⟨t130, A150, H⟩ := H
          replace H : (if t129 = t130 then ((shade_Minutes.f a2).bind fun t131 => ((wharfref16_Minutes.f a2).bind fun t132 => (if t131 = t132 then ((wharflaw16_live.f k).bind fun t133 => (some t133)) else (some false)))) else (some false)) = some r := H
          have A15 := Aside0.mk A150
          clear A150
          by_cases c16 : t129 = t130
          · rw [if_pos c16] at H
            have c16b0 : (t129 == t130) = true := beq_iff_eq.mpr c16
            have c16b1 : (t129 != t130) = false := bne_eq_false_iff_eq.mpr c16
            clear c16
            replace H := Option.bind_eq_some_iff.mp H
            obtain ⟨t131, A170, H⟩ := H
            replace H : ((wharfref16_Minutes.f a2).bind fun t132 => (if t131 = t132 then ((wharflaw16_live.f k).bind fun t133 => (some t133)) else (some false))) = some r := H
            have A17 := Aside0.mk A170
            clear A170
            replace H := Option.bind_eq_some_iff.mp H
            obtain ⟨t132, A180, H⟩ := H
            replace H : (if t131 = t132 then ((wharflaw16_live.f k).bind fun t133 => (some t133)) else (some false)) = some r := H
            have A18 := Aside0.mk A180
            clear A180
            by_cases c19 : t131 = t132
            · rw [if_pos c19] at H
              have c19b0 : (t131 == t132) = true := beq_iff_eq.mpr c19
              have c19b1 : (t131 != t132) = false := bne_eq_false_iff_eq.mpr c19
              clear c19
              replace H := Option.bind_eq_some_iff.mp H
              obtain ⟨t133, A200, H⟩ := H
              replace H : (some t133) = some r := H
              have A20 := Aside0.mk A200
              clear A200
              obtain rfl := Option.some.inj H
              go_enter Try.func3, Try.ntmps3
              go_wp2_with (first | ((with_reducible refine gate_callee (f := 9) rfl ?_); refine goesL_ (some 17) rfl rfl Try.func9 (by kernel_rfl) rfl #[.int .i64 a0] rfl (by (try simp only [List.map_toArray, List.map_cons, List.map_nil]); first | done | rfl | (simp only [List.length_drop, List.length_take]; rfl)) ?_; (with_reducible refine (shade_Show.calls k a0 t123 t124 _ A7.out).mono ?_); rintro e w' ⟨rfl, ⟨nd, rfl⟩⟩; refine ⟨_, rfl, ?_⟩) | ((with_reducible refine gate_callee (f := 10) rfl ?_); refine goesL_ (some 22) rfl rfl Try.func10 (by kernel_rfl) rfl #[.int .i64 a0] rfl (by (try simp only [List.map_toArray, List.map_cons, List.map_nil]); first | done | rfl | (simp only [List.length_drop, List.length_take]; rfl)) ?_; (with_reducible refine (wharfref16_Show.calls k a0 t125 t126 _ A8.out).mono ?_); rintro e w' ⟨rfl, ⟨nd, rfl⟩⟩; refine ⟨_, rfl, ?_⟩) | (go_at_call 11; (with_reducible refine (shade_Status.calls a1 t127 _ A11.out).mono ?_); rintro e w' ⟨rfl, ⟨nd, rfl⟩⟩) | (go_at_call 12; (with_reducible refine (wharfref16_Status.calls a1 t128 _ A12.out).mono ?_); rintro e w' ⟨rfl, ⟨nd, rfl⟩⟩) | (go_at_call 13; (with_reducible refine (shade_Seconds.calls a2 t129 _ A14.out).mono ?_); rintro e w21 ⟨rfl, hb⟩; have n0_ := Aside0.mk (below_step (by repeat (first | (with_reducible first | exact HB.out | apply below_alloc | apply pw_below_drewN | apply below_drew1) | exact HB.out)) hb); clear HB; have HB := n0_; clear n0_; (try clear hb); (try clear hb2); (try clear hk); (try clear hi)) | (go_at_call 14; (with_reducible refine (wharfref16_Seconds.calls a2 t130 _ A15.out).mono ?_); rintro e w22 ⟨rfl, hb⟩; have n0_ := Aside0.mk (below_step (by repeat (first | (with_reducible first | exact HB.out | apply below_alloc | apply pw_below_drewN | apply below_drew1) | exact HB.out)) hb); clear HB; have HB := n0_; clear n0_; (try clear hb); (try clear hb2); (try clear hk); (try clear hi)) | (go_at_call 15; (with_reducible refine (shade_Minutes.calls a2 t131 _ A17.out).mono ?_); rintro e w23 ⟨rfl, hb⟩; have n0_ := Aside0.mk (below_step (by repeat (first | (with_reducible first | exact HB.out | apply below_alloc | apply pw_below_drewN | apply below_drew1) | exact HB.out)) hb); clear HB; have HB := n0_; clear n0_; (try clear hb); (try clear hb2); (try clear hk); (try clear hi)) | (go_at_call 16; (with_reducible refine (wharfref16_Minutes.calls a2 t132 _ A18.out).mono ?_); rintro e w24 ⟨rfl, hb⟩; have n0_ := Aside0.mk (below_step (by repeat (first | (with_reducible first | exact HB.out | apply below_alloc | apply pw_below_drewN | apply below_drew1) | exact HB.out)) hb); clear HB; have HB := n0_; clear n0_; (try clear hb); (try clear hb2); (try clear hk); (try clear hi)) | (go_at_call 8; (with_reducible refine (wharflaw16_live.calls k  t133 _ A20.out).mono ?_); rintro e w25 ⟨rfl, hb⟩; have n0_ := Aside0.mk (below_step (by repeat (first | (with_reducible first | exact HB.out | apply below_alloc | apply pw_below_drewN | apply below_drew1) | exact HB.out)) hb); clear HB; have HB := n0_; clear n0_; (try clear hb); (try clear hb2); (try clear hk); (try clear hi)))
              go_ret
              exact ⟨by first | rfl | (simp [errW_none, errW_some] <;> rfl) | (simp [*, errW_none, errW_some] <;> rfl), by repeat (first | (with_reducible first | exact HB.out | apply below_alloc | apply pw_below_drewN | apply below_drew1) | exact HB.out)⟩
            · rw [if_neg c19] at H
              have c19b0 : (t131 == t132) = false := beq_eq_false_iff_ne.mpr c19
              have c19b1 : (t131 != t132) = true := bne_iff_ne.mpr c19
              exact absurd (Option.some.inj H) (by rw [HT_.out]; exact Bool.false_ne_true)
          · rw [if_neg c16] at H
            have c16b0 : (t129 == t130) = false := beq_eq_false_iff_ne.mpr c16
            have c16b1 : (t129 != t130) = true := bne_iff_ne.mpr c16
            exact absurd (Option.some.inj H) (by rw [HT_.out]; exact Bool.false_ne_true)
        · rw [if_neg c13] at H
          have c13b0 : (t127 == t128) = false := beq_eq_false_iff_ne.mpr c13
          have c13b1 : (t127 != t128) = true := bne_iff_ne.mpr c13
          exact absurd (Option.some.inj H) (by rw [HT_.out]; exact Bool.false_ne_true)
      · rw [if_neg c10] at H
        have c10b0 : (t124 == t126) = false := by simpa using c10
        (try (have c10b1 : decide (t124 = t126) = false := by simpa using c10))
        (try (have c10b2 : (t124 == t126) = false := by simpa using c10))
        (try (have c10b3 : ¬ (t124 = t126) := by simpa using c10))
        clear c10
        exact absurd (Option.some.inj H) (by rw [HT_.out]; exact Bool.false_ne_true)
    · rw [if_neg c9] at H
      have c9b0 : (t123.toList == t125.toList) = false := beq_eq_false_iff_ne.mpr c9
      have c9b1 : (t123.toList != t125.toList) = true := bne_iff_ne.mpr c9
      exact absurd (Option.some.inj H) (by rw [HT_.out]; exact Bool.false_ne_true)

end Go.Proofs.Ytaaoaikfkgbfhaa.H
