-- written by hp.py for this claim, out of the kit's printer and texts of my own
import Derived.Test.YtaaoaikfkgbfhaaHx0
import Derived.Test.YtaaoaikfkgbfhaaHx8
import Derived.Test.YtaaoaikfkgbfhaaHx17
import Derived.Test.YtaaoaikfkgbfhaaHx18
import Derived.Test.YtaaoaikfkgbfhaaHx19
import Derived.Test.YtaaoaikfkgbfhaaHx20
namespace Go.Proofs.Ytaaoaikfkgbfhaa.H
open Go.RowKit Go.Proofs.YtaaoaikfkgbfhaaW.PrintWords Go.Proofs.YtaaoaikfkgbfhaaW.PrintLast Go.Proofs.YtaaoaikfkgbfhaaW.PrintMore
attribute [local go_sem] max2_int min2_int max_two min_two max_three min_three max_four min_four   -- for this text's walks alone
set_option linter.unusedVariables false
set_option linter.unusedSimpArgs false

/-! ### wharflaw16_ShadeTexts: function 4 -/
def wharflaw16_ShadeTexts.f (k : Nat) (a0 : ByteArray) (a1 : Int) : Option (Bool) := if (a0.size : Int) > 5000 then ((wharflaw16_live.f k).bind fun t177 => (some t177)) else ((shade_ToHtml.f a0 (mn a1 1099511627776)).bind fun t178 => ((wharfref16_ToHtml.f k a0 (mn a1 1099511627776)).bind fun t179 => (if t178.toList = t179.toList then ((shade_FromHtml.f a0).bind fun t180 => ((wharfref16_FromHtml.f k a0).bind fun t181 => (if t180.toList = t181.toList then ((wharflaw16_live.f k).bind fun t182 => (some t182)) else (some false)))) else (some false))))
theorem wharflaw16_ShadeTexts.mono : ∀ a0 a1 k, LeO (wharflaw16_ShadeTexts.f k a0 a1) (wharflaw16_ShadeTexts.f (k + 1) a0 a1) := by
  intro a0 a1 k
  unfold wharflaw16_ShadeTexts.f
  repeat' first
      | (with_reducible exact wharflaw16_live.mono _)
      | (with_reducible exact wharfref16_FromHtml.mono _ _)
      | (with_reducible exact wharfref16_ToHtml.mono _ _ _)
      | (with_reducible exact LeO.refl _)
      | (with_reducible exact LeO.none _)
      | (with_reducible refine LeO.ite ?_ ?_)
      | (with_reducible refine LeO.bind ?_ (fun _ => ?_))
      | exact wharflaw16_live.mono _
      | exact wharfref16_FromHtml.mono _ _
      | exact wharfref16_ToHtml.mono _ _ _
      | exact LeO.none _
      | refine LeO.ite ?_ ?_
      | refine LeO.bind ?_ (fun _ => ?_)
set_option maxHeartbeats 8000000 in
set_option maxRecDepth 100000 in
theorem wharflaw16_ShadeTexts.callsT (k : Nat) (a0 : ByteArray) (a1 : Int) (r : Bool) (w : World) (HT_ : Aside0 (r = true)) (h : wharflaw16_ShadeTexts.f k a0 a1 = some r) :
    Calls Try.prog 4 #[.string a0, .int .i64 a1] w fun e w' => e = .returned (.bool r) ∧ Below w.heap.size w w' := by
  have HB := Aside0.mk (Below.refl w.heap.size w)
  have H : (if (a0.size : Int) > 5000 then ((wharflaw16_live.f k).bind fun t177 => (some t177)) else ((shade_ToHtml.f a0 (mn a1 1099511627776)).bind fun t178 => ((wharfref16_ToHtml.f k a0 (mn a1 1099511627776)).bind fun t179 => (if t178.toList = t179.toList then ((shade_FromHtml.f a0).bind fun t180 => ((wharfref16_FromHtml.f k a0).bind fun t181 => (if t180.toList = t181.toList then ((wharflaw16_live.f k).bind fun t182 => (some t182)) else (some false)))) else (some false))))) = some r := h
  clear h
  by_cases c3 : (a0.size : Int) > 5000
  · rw [if_pos c3] at H
    have c3b0 : decide (5000 < (a0.size : Int)) = true := decide_eq_true c3
    have c3b1 : decide (5000 < a0.size) = true := decide_eq_true (by omega)
    clear c3
    replace H := Option.bind_eq_some_iff.mp H
    obtain ⟨t177, A40, H⟩ := H
    replace H : (some t177) = some r := H
    have A4 := Aside0.mk A40
    clear A40
    obtain rfl := Option.some.inj H
    go_enter Try.func4, Try.ntmps4
    go_wp2_with (first | ((with_reducible refine gate_callee (f := 8) rfl ?_); refine goesL_ (some 8) rfl rfl Try.func8 (by kernel_rfl) rfl #[] rfl (by (try simp only [List.map_toArray, List.map_cons, List.map_nil]); first | done | rfl | (simp only [List.length_drop, List.length_take]; rfl)) ?_; (with_reducible refine (wharflaw16_live.calls k  t177 _ A4.out).mono ?_); rintro e w5 ⟨rfl, hb⟩; refine ⟨_, rfl, ?_⟩; have n0_ := Aside0.mk (below_step (by repeat (first | (with_reducible first | exact HB.out | apply below_alloc | apply pw_below_drewN | apply below_drew1) | exact HB.out)) hb); clear HB; have HB := n0_; clear n0_; (try clear hb); (try clear hb2); (try clear hk); (try clear hi)))
    go_ret
    exact ⟨by first | rfl | (simp [errW_none, errW_some] <;> rfl) | (simp [*, errW_none, errW_some] <;> rfl), by repeat (first | (with_reducible first | exact HB.out | apply below_alloc | apply pw_below_drewN | apply below_drew1) | exact HB.out)⟩
  · rw [if_neg c3] at H
    have c3b0 : decide (5000 < (a0.size : Int)) = false := decide_eq_false c3
    have c3b1 : decide (5000 < a0.size) = false := decide_eq_false (by omega)
    clear c3
    obtain ⟨ji6, hji6⟩ : ∃ j_ : Int, (mn a1 1099511627776) = j_ := ⟨_, rfl⟩
    replace H : ((shade_ToHtml.f a0 (ji6)).bind fun t178 => ((wharfref16_ToHtml.f k a0 (ji6)).bind fun t179 => (if t178.toList = t179.toList then ((shade_FromHtml.f a0).bind fun t180 => ((wharfref16_FromHtml.f k a0).bind fun t181 => (if t180.toList = t181.toList then ((wharflaw16_live.f k).bind fun t182 => (some t182)) else (some false)))) else (some false)))) = some r := by first | (rw [hji6] at H; exact H) | (simp only [hji6] at H ⊢; exact H)
    (try (have hji6h : ji6 ≤ 1099511627776 := by (rw [← hji6]; unfold mn; (repeat' split) <;> omega)))
    (try (have hji6g : ji6 ≤ 64 := by omega))
    have hji6_ : (if 1099511627776 < a1 then 1099511627776 else a1) = ji6 := hji6
    replace H := Option.bind_eq_some_iff.mp H
    obtain ⟨t178, A70, H⟩ := H
    replace H : ((wharfref16_ToHtml.f k a0 (ji6)).bind fun t179 => (if t178.toList = t179.toList then ((shade_FromHtml.f a0).bind fun t180 => ((wharfref16_FromHtml.f k a0).bind fun t181 => (if t180.toList = t181.toList then ((wharflaw16_live.f k).bind fun t182 => (some t182)) else (some false)))) else (some false))) = some r := H
    have A7 := Aside0.mk A70
    clear A70
    replace H := Option.bind_eq_some_iff.mp H
    obtain ⟨t179, A90, H⟩ := H
    replace H : (if t178.toList = t179.toList then ((shade_FromHtml.f a0).bind fun t180 => ((wharfref16_FromHtml.f k a0).bind fun t181 => (if t180.toList = t181.toList then ((wharflaw16_live.f k).bind fun t182 => (some t182)) else (some false)))) else (some false)) = some r := H
    have A9 := Aside0.mk A90
    clear A90
    by_cases c10 : t178.toList = t179.toList
    · rw [if_pos c10] at H
      have c10b0 : (t178.toList == t179.toList) = true := beq_iff_eq.mpr c10
      have c10b1 : (t178.toList != t179.toList) = false := bne_eq_false_iff_eq.mpr c10
      clear c10
      replace H := Option.bind_eq_some_iff.mp H
      obtain ⟨t180, A110, H⟩ := H
      replace H : ((wharfref16_FromHtml.f k a0).bind fun t181 => (if t180.toList = t181.toList then ((wharflaw16_live.f k).bind fun t182 => (some t182)) else (some false))) = some r := H
      have A11 := Aside0.mk A110
      clear A110
      replace H := Option.bind_eq_some_iff.mp H
      obtain ⟨t181, A120, H⟩ := H
      replace H : (if t180.toList = t181.toList then ((wharflaw16_live.f k).bind fun t182 => (some t182)) else (some false)) = some r := H
      have A12 := Aside0.mk A120
      clear A120
      by_cases c13 : t180.toList = t181.toList
      · rw [if_pos c13] at H
        have c13b0 : (t180.toList == t181.toList) = true := beq_iff_eq.mpr c13
        have c13b1 : (t180.toList != t181.toList) = false := bne_eq_false_iff_eq.mpr c13
        clear c13
        replace H := Option.bind_eq_some_iff.mp H
        obtain ⟨t182, A140, H⟩ := H
        replace H : (some t182) = some r := H
        have A14 := Aside0.mk A140
        clear A140
        obtain rfl := Option.some.inj H
        go_enter Try.func4, Try.ntmps4
        go_wp2_with (first | ((with_reducible refine gate_callee (f := 17) rfl ?_); refine goesL_ (some 12) rfl rfl Try.func17 (by kernel_rfl) rfl #[.string a0, .int .i64 ji6] rfl (by (try simp only [List.map_toArray, List.map_cons, List.map_nil]); first | done | (simp only [hji6]; rfl) | rfl | (simp only [List.length_drop, List.length_take]; rfl)) ?_; (with_reducible refine (shade_ToHtml.calls a0 ji6 t178 _ A7.out).mono ?_); rintro e w15 ⟨rfl, hb⟩; refine ⟨_, rfl, ?_⟩; have n0_ := Aside0.mk (below_step (by repeat (first | (with_reducible first | exact HB.out | apply below_alloc | apply pw_below_drewN | apply below_drew1) | exact HB.out)) hb); clear HB; have HB := n0_; clear n0_; (try clear hb); (try clear hb2); (try clear hk); (try clear hi)) | ((with_reducible refine gate_callee (f := 18) rfl ?_); refine goesL_ (some 16) rfl rfl Try.func18 (by kernel_rfl) rfl #[.string a0, .int .i64 ji6] rfl (by (try simp only [List.map_toArray, List.map_cons, List.map_nil]); first | done | (simp only [hji6]; rfl) | rfl | (simp only [List.length_drop, List.length_take]; rfl)) ?_; (with_reducible refine (wharfref16_ToHtml.calls k a0 ji6 t179 _ A9.out).mono ?_); rintro e w16 ⟨rfl, hb⟩; refine ⟨_, rfl, ?_⟩; have n0_ := Aside0.mk (below_step (by repeat (first | (with_reducible first | exact HB.out | apply below_alloc | apply pw_below_drewN | apply below_drew1) | exact HB.out)) hb); clear HB; have HB := n0_; clear n0_; (try clear hb); (try clear hb2); (try clear hk); (try clear hi)) | (go_at_call 19; (with_reducible refine (shade_FromHtml.calls a0 t180 _ A11.out).mono ?_); rintro e w17 ⟨rfl, hb⟩; have n0_ := Aside0.mk (below_step (by repeat (first | (with_reducible first | exact HB.out | apply below_alloc | apply pw_below_drewN | apply below_drew1) | exact HB.out)) hb); clear HB; have HB := n0_; clear n0_; (try clear hb); (try clear hb2); (try clear hk); (try clear hi)) | (go_at_call 20; (with_reducible refine (wharfref16_FromHtml.calls k a0 t181 _ A12.out).mono ?_); rintro e w18 ⟨rfl, hb⟩; have n0_ := Aside0.mk (below_step (by repeat (first | (with_reducible first | exact HB.out | apply below_alloc | apply pw_below_drewN | apply below_drew1) | exact HB.out)) hb); clear HB; have HB := n0_; clear n0_; (try clear hb); (try clear hb2); (try clear hk); (try clear hi)) | (go_at_call 8; (with_reducible refine (wharflaw16_live.calls k  t182 _ A14.out).mono ?_); rintro e w19 ⟨rfl, hb⟩; have n0_ := Aside0.mk (below_step (by repeat (first | (with_reducible first | exact HB.out | apply below_alloc | apply pw_below_drewN | apply below_drew1) | exact HB.out)) hb); clear HB; have HB := n0_; clear n0_; (try clear hb); (try clear hb2); (try clear hk); (try clear hi)))
        go_ret
        exact ⟨by first | rfl | (simp [errW_none, errW_some] <;> rfl) | (simp only [← hji6]; first | rfl | (simp [errW_none, errW_some] <;> rfl)) | (simp [*, errW_none, errW_some] <;> rfl), by repeat (first | (with_reducible first | exact HB.out | apply below_alloc | apply pw_below_drewN | apply below_drew1) | exact HB.out)⟩
      · rw [if_neg c13] at H
        have c13b0 : (t180.toList == t181.toList) = false := beq_eq_false_iff_ne.mpr c13
        have c13b1 : (t180.toList != t181.toList) = true := bne_iff_ne.mpr c13
        exact absurd (Option.some.inj H) (by rw [HT_.out]; exact Bool.false_ne_true)
    · rw [if_neg c10] at H
      have c10b0 : (t178.toList == t179.toList) = false := beq_eq_false_iff_ne.mpr c10
      have c10b1 : (t178.toList != t179.toList) = true := bne_iff_ne.mpr c10
      exact absurd (Option.some.inj H) (by rw [HT_.out]; exact Bool.false_ne_true)

end Go.Proofs.Ytaaoaikfkgbfhaa.H
