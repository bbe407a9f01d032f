-- written by hp.py for this claim, out of the kit's printer and texts of my own
import Derived.Test.YtaplfbnjoifggaaHx0
import Derived.Test.YtaplfbnjoifggaaHx12
import Derived.Test.YtaplfbnjoifggaaHx15
import Derived.Test.YtaplfbnjoifggaaHx17
namespace Go.Proofs.Ytaplfbnjoifggaa.H
open Go.RowKit Go.Proofs.YtaplfbnjoifggaaW.PrintWords Go.Proofs.YtaplfbnjoifggaaW.PrintLast Go.Proofs.YtaplfbnjoifggaaW.PrintMore
attribute [local go_sem] max2_int min2_int max_two min_two max_three min_three max_four min_four   -- for this text's walks alone
set_option linter.unusedVariables false
set_option linter.unusedSimpArgs false

/-! ### wharflaw01_GlyphOrder: function 10 -/
def wharflaw01_GlyphOrder.f (k : Nat) (a0 : Int) (a1 : Int) : Option (Bool) := (glyph_Put.f a0).bind fun bt230 => ((glyph_Put.f a1).bind fun bt232 => ((wharflaw01_num.f bt230.2).bind fun t234 => ((wharflaw01_num.f bt232.2).bind fun t235 => (if (wrap64 (t234 + t235)) = 0 then (if ((Op.bytesLess bt230.1.toList bt232.1.toList) != (decide (a0 < a1))) = true then (some false) else (if ((bt230.1.toList == bt232.1.toList) != (a0 == a1)) = true then (some false) else (if a0 = a1 then ((wharflaw01_live.f k).bind fun t236 => (some t236)) else (if (bt230.1.size : Int) > (bt232.1.size : Int) then ((wharflaw01_live.f k).bind fun t237 => (some t237)) else (if 0 ≤ (bt230.1.size : Int) then (if (bt230.1.size : Int) ≤ (bt232.1.size : Int) then (if (bt232.1.extract 0 bt230.1.size).toList = bt230.1.toList then (some false) else ((wharflaw01_live.f k).bind fun t238 => (some t238))) else (none)) else (none)))))) else ((wharflaw01_live.f k).bind fun t239 => (some t239))))))
theorem wharflaw01_GlyphOrder.mono : ∀ a0 a1 k, LeO (wharflaw01_GlyphOrder.f k a0 a1) (wharflaw01_GlyphOrder.f (k + 1) a0 a1) := by
  intro a0 a1 k
  unfold wharflaw01_GlyphOrder.f
  repeat' first
      | (with_reducible exact wharflaw01_live.mono _)
      | (with_reducible exact LeO.refl _)
      | (with_reducible exact LeO.none _)
      | (with_reducible refine LeO.ite ?_ ?_)
      | (with_reducible refine LeO.bind ?_ (fun _ => ?_))
      | exact wharflaw01_live.mono _
      | exact LeO.none _
      | refine LeO.ite ?_ ?_
      | refine LeO.bind ?_ (fun _ => ?_)
set_option maxHeartbeats 8000000 in
set_option maxRecDepth 100000 in
theorem wharflaw01_GlyphOrder.calls (k : Nat) (a0 : Int) (a1 : Int) (r : Bool) (w : World) (h : wharflaw01_GlyphOrder.f k a0 a1 = some r) :
    Calls Try.prog 10 #[.int .i64 a0, .int .i64 a1] w fun e w' => e = .returned (.bool r) ∧ Below w.heap.size w w' := by
  have HB := Aside0.mk (Below.refl w.heap.size w)
  have H : ((glyph_Put.f a0).bind fun bt230 => ((glyph_Put.f a1).bind fun bt232 => ((wharflaw01_num.f bt230.2).bind fun t234 => ((wharflaw01_num.f bt232.2).bind fun t235 => (if (wrap64 (t234 + t235)) = 0 then (if ((Op.bytesLess bt230.1.toList bt232.1.toList) != (decide (a0 < a1))) = true then (some false) else (if ((bt230.1.toList == bt232.1.toList) != (a0 == a1)) = true then (some false) else (if a0 = a1 then ((wharflaw01_live.f k).bind fun t236 => (some t236)) else (if (bt230.1.size : Int) > (bt232.1.size : Int) then ((wharflaw01_live.f k).bind fun t237 => (some t237)) else (if 0 ≤ (bt230.1.size : Int) then (if (bt230.1.size : Int) ≤ (bt232.1.size : Int) then (if (bt232.1.extract 0 bt230.1.size).toList = bt230.1.toList then (some false) else ((wharflaw01_live.f k).bind fun t238 => (some t238))) else (none)) else (none)))))) else ((wharflaw01_live.f k).bind fun t239 => (some t239))))))) = some r := h
  clear h
  replace H := Option.bind_eq_some_iff.mp H
  obtain ⟨⟨t230, t231⟩, A30, H⟩ := H
  replace H : ((glyph_Put.f a1).bind fun bt232 => ((wharflaw01_num.f t231).bind fun t234 => ((wharflaw01_num.f bt232.2).bind fun t235 => (if (wrap64 (t234 + t235)) = 0 then (if ((Op.bytesLess t230.toList bt232.1.toList) != (decide (a0 < a1))) = true then (some false) else (if ((t230.toList == bt232.1.toList) != (a0 == a1)) = true then (some false) else (if a0 = a1 then ((wharflaw01_live.f k).bind fun t236 => (some t236)) else (if (t230.size : Int) > (bt232.1.size : Int) then ((wharflaw01_live.f k).bind fun t237 => (some t237)) else (if 0 ≤ (t230.size : Int) then (if (t230.size : Int) ≤ (bt232.1.size : Int) then (if (bt232.1.extract 0 t230.size).toList = t230.toList then (some false) else ((wharflaw01_live.f k).bind fun t238 => (some t238))) else (none)) else (none)))))) else ((wharflaw01_live.f k).bind fun t239 => (some t239)))))) = some r := H
  have A3 := Aside0.mk A30
  clear A30
  replace H := Option.bind_eq_some_iff.mp H
  obtain ⟨⟨t232, t233⟩, A40, H⟩ := H
  replace H : ((wharflaw01_num.f t231).bind fun t234 => ((wharflaw01_num.f t233).bind fun t235 => (if (wrap64 (t234 + t235)) = 0 then (if ((Op.bytesLess t230.toList t232.toList) != (decide (a0 < a1))) = true then (some false) else (if ((t230.toList == t232.toList) != (a0 == a1)) = true then (some false) else (if a0 = a1 then ((wharflaw01_live.f k).bind fun t236 => (some t236)) else (if (t230.size : Int) > (t232.size : Int) then ((wharflaw01_live.f k).bind fun t237 => (some t237)) else (if 0 ≤ (t230.size : Int) then (if (t230.size : Int) ≤ (t232.size : Int) then (if (t232.extract 0 t230.size).toList = t230.toList then (some false) else ((wharflaw01_live.f k).bind fun t238 => (some t238))) else (none)) else (none)))))) else ((wharflaw01_live.f k).bind fun t239 => (some t239))))) = some r := H
  have A4 := Aside0.mk A40
  clear A40
  replace H := Option.bind_eq_some_iff.mp H
  obtain ⟨t234, A50, H⟩ := H
  replace H : ((wharflaw01_num.f t233).bind fun t235 => (if (wrap64 (t234 + t235)) = 0 then (if ((Op.bytesLess t230.toList t232.toList) != (decide (a0 < a1))) = true then (some false) else (if ((t230.toList == t232.toList) != (a0 == a1)) = true then (some false) else (if a0 = a1 then ((wharflaw01_live.f k).bind fun t236 => (some t236)) else (if (t230.size : Int) > (t232.size : Int) then ((wharflaw01_live.f k).bind fun t237 => (some t237)) else (if 0 ≤ (t230.size : Int) then (if (t230.size : Int) ≤ (t232.size : Int) then (if (t232.extract 0 t230.size).toList = t230.toList then (some false) else ((wharflaw01_live.f k).bind fun t238 => (some t238))) else (none)) else (none)))))) else ((wharflaw01_live.f k).bind fun t239 => (some t239)))) = some r := H
  have A5 := Aside0.mk A50
  clear A50
  replace H := Option.bind_eq_some_iff.mp H
  obtain ⟨t235, A60, H⟩ := H
  replace H : (if (wrap64 (t234 + t235)) = 0 then (if ((Op.bytesLess t230.toList t232.toList) != (decide (a0 < a1))) = true then (some false) else (if ((t230.toList == t232.toList) != (a0 == a1)) = true then (some false) else (if a0 = a1 then ((wharflaw01_live.f k).bind fun t236 => (some t236)) else (if (t230.size : Int) > (t232.size : Int) then ((wharflaw01_live.f k).bind fun t237 => (some t237)) else (if 0 ≤ (t230.size : Int) then (if (t230.size : Int) ≤ (t232.size : Int) then (if (t232.extract 0 t230.size).toList = t230.toList then (some false) else ((wharflaw01_live.f k).bind fun t238 => (some t238))) else (none)) else (none)))))) else ((wharflaw01_live.f k).bind fun t239 => (some t239))) = some r := H
  have A6 := Aside0.mk A60
  clear A60
  by_cases c7 : (wrap64 (t234 + t235)) = 0
  · rw [if_pos c7] at H
    have c7b0 : ((wrap64 (t234 + t235)) == 0) = true := beq_iff_eq.mpr c7
    have c7b1 : ((wrap64 (t234 + t235)) != 0) = false := bne_eq_false_iff_eq.mpr c7
    clear c7
    by_cases c8 : ((Op.bytesLess t230.toList t232.toList) != (decide (a0 < a1))) = true
    · rw [if_pos c8] at H
      have c8b0 : ((Op.bytesLess t230.toList t232.toList) != (decide (a0 < a1))) = true := c8
      (try (have c8b1 : decide ((Op.bytesLess t230.toList t232.toList) = (decide (a0 < a1))) = false := by simpa using c8))
      (try (have c8b2 : ((Op.bytesLess t230.toList t232.toList) == (decide (a0 < a1))) = false := by simpa using c8))
      (try (have c8b3 : ¬ ((Op.bytesLess t230.toList t232.toList) = (decide (a0 < a1))) := by simpa using c8))
      clear c8
      obtain rfl := Option.some.inj H
      go_enter Try.func10, Try.ntmps10
      go_wp2_with (first | ((with_reducible refine gate_callee (f := 15) rfl ?_); refine goesL_ (some 11) rfl rfl Try.func15 (by kernel_rfl) rfl #[.int .i64 a0] rfl (by (try simp only [List.map_toArray, List.map_cons, List.map_nil]); first | done | rfl | (simp only [List.length_drop, List.length_take]; rfl)) ?_; (with_reducible refine (glyph_Put.calls a0 t230 t231 _ A3.out).mono ?_); rintro e w' ⟨rfl, ⟨nd, rfl⟩⟩; refine ⟨_, rfl, ?_⟩) | ((with_reducible refine gate_callee (f := 15) rfl ?_); refine goesL_ (some 16) rfl rfl Try.func15 (by kernel_rfl) rfl #[.int .i64 a1] rfl (by (try simp only [List.map_toArray, List.map_cons, List.map_nil]); first | done | rfl | (simp only [List.length_drop, List.length_take]; rfl)) ?_; (with_reducible refine (glyph_Put.calls a1 t232 t233 _ A4.out).mono ?_); rintro e w' ⟨rfl, ⟨nd, rfl⟩⟩; refine ⟨_, rfl, ?_⟩) | ((with_reducible refine gate_callee (f := 17) rfl ?_); refine goesL_ (some 20) rfl rfl Try.func17 (by kernel_rfl) rfl #[.int .i64 t231] rfl (by (try simp only [List.map_toArray, List.map_cons, List.map_nil]); first | done | rfl | (simp only [List.length_drop, List.length_take]; rfl)) ?_; (with_reducible refine (wharflaw01_num.calls t231 t234 _ A5.out).mono ?_); rintro e w' ⟨rfl, ⟨nd, rfl⟩⟩; refine ⟨_, rfl, ?_⟩) | ((with_reducible refine gate_callee (f := 17) rfl ?_); refine goesL_ (some 22) rfl rfl Try.func17 (by kernel_rfl) rfl #[.int .i64 t233] rfl (by (try simp only [List.map_toArray, List.map_cons, List.map_nil]); first | done | rfl | (simp only [List.length_drop, List.length_take]; rfl)) ?_; (with_reducible refine (wharflaw01_num.calls t233 t235 _ A6.out).mono ?_); rintro e w' ⟨rfl, ⟨nd, rfl⟩⟩; refine ⟨_, rfl, ?_⟩))
      go_ret
      exact ⟨by first | rfl | (simp [errW_none, errW_some] <;> rfl) | (simp [*, errW_none, errW_some] <;> rfl), by repeat (first | (with_reducible first | exact HB.out | apply below_alloc | apply pw_below_drewN | apply below_drew1) | exact HB.out)⟩
    · rw [if_neg c8] at H
      have c8b0 : ((Op.bytesLess t230.toList t232.toList) != (decide (a0 < a1))) = false := by simpa using c8
      (try (have c8b1 : decide ((Op.bytesLess t230.toList t232.toList) = (decide (a0 < a1))) = true := by simpa using c8))
      (try (have c8b2 : ((Op.bytesLess t230.toList t232.toList) == (decide (a0 < a1))) = true := by simpa using c8))
      clear c8
      by_cases c9 : ((t230.toList == t232.toList) != (a0 == a1)) = true
      · rw [if_pos c9] at H
        have c9b0 : ((t230.toList == t232.toList) != (a0 == a1)) = true := c9
        (try (have c9b1 : decide ((t230.toList == t232.toList) = (a0 == a1)) = false := by simpa using c9))
        (try (have c9b2 : ((t230.toList == t232.toList) == (a0 == a1)) = false := by simpa using c9))
        (try (have c9b3 : ¬ ((t230.toList == t232.toList) = (a0 == a1)) := by simpa using c9))
        clear c9
        obtain rfl := Option.some.inj H
        go_enter Try.func10, Try.ntmps10
        go_wp2_with (first | ((with_reducible refine gate_callee (f := 15) rfl ?_); refine goesL_ (some 11) rfl rfl Try.func15 (by kernel_rfl) rfl #[.int .i64 a0] rfl (by (try simp only [List.map_toArray, List.map_cons, List.map_nil]); first | done | rfl | (simp only [List.length_drop, List.length_take]; rfl)) ?_; (with_reducible refine (glyph_Put.calls a0 t230 t231 _ A3.out).mono ?_); rintro e w' ⟨rfl, ⟨nd, rfl⟩⟩; refine ⟨_, rfl, ?_⟩) | ((with_reducible refine gate_callee (f := 15) rfl ?_); refine goesL_ (some 16) rfl rfl Try.func15 (by kernel_rfl) rfl #[.int .i64 a1] rfl (by (try simp only [List.map_toArray, List.map_cons, List.map_nil]); first | done | rfl | (simp only [List.length_drop, List.length_take]; rfl)) ?_; (with_reducible refine (glyph_Put.calls a1 t232 t233 _ A4.out).mono ?_); rintro e w' ⟨rfl, ⟨nd, rfl⟩⟩; refine ⟨_, rfl, ?_⟩) | ((with_reducible refine gate_callee (f := 17) rfl ?_); refine goesL_ (some 20) rfl rfl Try.func17 (by kernel_rfl) rfl #[.int .i64 t231] rfl (by (try simp only [List.map_toArray, List.map_cons, List.map_nil]); first | done | rfl | (simp only [List.length_drop, List.length_take]; rfl)) ?_; (with_reducible refine (wharflaw01_num.calls t231 t234 _ A5.out).mono ?_); rintro e w' ⟨rfl, ⟨nd, rfl⟩⟩; refine ⟨_, rfl, ?_⟩) | ((with_reducible refine gate_callee (f := 17) rfl ?_); refine goesL_ (some 22) rfl rfl Try.func17 (by kernel_rfl) rfl #[.int .i64 t233] rfl (by (try simp only [List.map_toArray, List.map_cons, List.map_nil]); first | done | rfl | (simp only [List.length_drop, List.length_take]; rfl)) ?_; (with_reducible refine (wharflaw01_num.calls t233 t235 _ A6.out).mono ?_); rintro e w' ⟨rfl, ⟨nd, rfl⟩⟩; refine ⟨_, rfl, ?_⟩))
        go_ret
        exact ⟨by first | rfl | (simp [errW_none, errW_some] <;> rfl) | (simp [*, errW_none, errW_some] <;> rfl), by repeat (first | (with_reducible first | exact HB.out | apply below_alloc | apply pw_below_drewN | apply below_drew1) | exact HB.out)⟩
      · rw [if_neg c9] at H
        have c9b0 : ((t230.toList == t232.toList) != (a0 == a1)) = false := by simpa using c9
        (try (have c9b1 : decide ((t230.toList == t232.toList) = (a0 == a1)) = true := by simpa using c9))
        (try (have c9b2 : ((t230.toList == t232.toList) == (a0 == a1)) = true := by simpa using c9))
        clear c9
        by_cases c10 : a0 = a1
        · rw [if_pos c10] at H
          have c10b0 : (a0 == a1) = true := beq_iff_eq.mpr c10
          have c10b1 : (a0 != a1) = false := bne_eq_false_iff_eq.mpr c10
          clear c10
          (try (have c9b0zc10 := c9b0; simp only [c10b0, Bool.bne_true, Bool.bne_false, beq_true, beq_false, Bool.and_true, Bool.true_and, Bool.and_false, Bool.false_and, Bool.or_true, Bool.true_or, Bool.or_false, Bool.false_or, Bool.not_true, Bool.not_false] at c9b0zc10))
          (try (have c9b1zc10 := c9b1; simp only [c10b0, Bool.bne_true, Bool.bne_false, beq_true, beq_false, Bool.and_true, Bool.true_and, Bool.and_false, Bool.false_and, Bool.or_true, Bool.true_or, Bool.or_false, Bool.false_or, Bool.not_true, Bool.not_false] at c9b1zc10))
          (try (have c9b2zc10 := c9b2; simp only [c10b0, Bool.bne_true, Bool.bne_false, beq_true, beq_false, Bool.and_true, Bool.true_and, Bool.and_false, Bool.false_and, Bool.or_true, Bool.true_or, Bool.or_false, Bool.false_or, Bool.not_true, Bool.not_false] at c9b2zc10))
          replace H := Option.bind_eq_some_iff.mp H
          obtain ⟨t236, A110, H⟩ := H
          replace H : (some t236) = some r := H
          have A11 := Aside0.mk A110
          clear A110
          obtain rfl := Option.some.inj H
          go_enter Try.func10, Try.ntmps10
          go_wp2_with (first | ((with_reducible refine gate_callee (f := 15) rfl ?_); refine goesL_ (some 11) rfl rfl Try.func15 (by kernel_rfl) rfl #[.int .i64 a0] rfl (by (try simp only [List.map_toArray, List.map_cons, List.map_nil]); first | done | rfl | (simp only [List.length_drop, List.length_take]; rfl)) ?_; (with_reducible refine (glyph_Put.calls a0 t230 t231 _ A3.out).mono ?_); rintro e w' ⟨rfl, ⟨nd, rfl⟩⟩; refine ⟨_, rfl, ?_⟩) | ((with_reducible refine gate_callee (f := 15) rfl ?_); refine goesL_ (some 16) rfl rfl Try.func15 (by kernel_rfl) rfl #[.int .i64 a1] rfl (by (try simp only [List.map_toArray, List.map_cons, List.map_nil]); first | done | rfl | (simp only [List.length_drop, List.length_take]; rfl)) ?_; (with_reducible refine (glyph_Put.calls a1 t232 t233 _ A4.out).mono ?_); rintro e w' ⟨rfl, ⟨nd, rfl⟩⟩; refine ⟨_, rfl, ?_⟩) | ((with_reducible refine gate_callee (f := 17) rfl ?_); refine goesL_ (some 20) rfl rfl Try.func17 (by kernel_rfl) rfl #[.int .i64 t231] rfl (by (try simp only [List.map_toArray, List.map_cons, List.map_nil]); first | done | rfl | (simp only [List.length_drop, List.length_take]; rfl)) ?_; (with_reducible refine (wharflaw01_num.calls t231 t234 _ A5.out).mono ?_); rintro e w' ⟨rfl, ⟨nd, rfl⟩⟩; refine ⟨_, rfl, ?_⟩) | ((with_reducible refine gate_callee (f := 17) rfl ?_); refine goesL_ (some 22) rfl rfl Try.func17 (by kernel_rfl) rfl #[.int .i64 t233] rfl (by (try simp only [List.map_toArray, List.map_cons, List.map_nil]); first | done | rfl | (simp only [List.length_drop, List.length_take]; rfl)) ?_; (with_reducible refine (wharflaw01_num.calls t233 t235 _ A6.out).mono ?_); rintro e w' ⟨rfl, ⟨nd, rfl⟩⟩; refine ⟨_, rfl, ?_⟩) | (go_at_call 12; (with_reducible refine (wharflaw01_live.calls k  t236 _ A11.out).mono ?_); rintro e w12 ⟨rfl, hb⟩; have n0_ := Aside0.mk (below_step (by repeat (first | (with_reducible first | exact HB.out | apply below_alloc | apply pw_below_drewN | apply below_drew1) | exact HB.out)) hb); clear HB; have HB := n0_; clear n0_; (try clear hb); (try clear hb2); (try clear hk); (try clear hi)))
          go_ret
          exact ⟨by first | rfl | (simp [errW_none, errW_some] <;> rfl) | (simp [*, errW_none, errW_some] <;> rfl), by repeat (first | (with_reducible first | exact HB.out | apply below_alloc | apply pw_below_drewN | apply below_drew1) | exact HB.out)⟩
        · rw [if_neg c10] at H
          have c10b0 : (a0 == a1) = false := beq_eq_false_iff_ne.mpr c10
          have c10b1 : (a0 != a1) = true := bne_iff_ne.mpr c10
          (try (have c9b0zc10 := c9b0; simp only [c10b0, Bool.bne_true, Bool.bne_false, beq_true, beq_false, Bool.and_true, Bool.true_and, Bool.and_false, Bool.false_and, Bool.or_true, Bool.true_or, Bool.or_false, Bool.false_or, Bool.not_true, Bool.not_false] at c9b0zc10))
          (try (have c9b1zc10 := c9b1; simp only [c10b0, Bool.bne_true, Bool.bne_false, beq_true, beq_false, Bool.and_true, Bool.true_and, Bool.and_false, Bool.false_and, Bool.or_true, Bool.true_or, Bool.or_false, Bool.false_or, Bool.not_true, Bool.not_false] at c9b1zc10))
          (try (have c9b2zc10 := c9b2; simp only [c10b0, Bool.bne_true, Bool.bne_false, beq_true, beq_false, Bool.and_true, Bool.true_and, Bool.and_false, Bool.false_and, Bool.or_true, Bool.true_or, Bool.or_false, Bool.false_or, Bool.not_true, Bool.not_false] at c9b2zc10))
          by_cases c13 : (t230.size : Int) > (t232.size : Int)
          · rw [if_pos c13] at H
            have c13b0 : decide ((t232.size : Int) < (t230.size : Int)) = true := decide_eq_true c13
            have c13b1 : decide (t232.size < t230.size) = true := decide_eq_true (Int.ofNat_lt.mp c13)
            clear c13
            replace H := Option.bind_eq_some_iff.mp H
            obtain ⟨t237, A140, H⟩ := H
            replace H : (some t237) = some r := H
            have A14 := Aside0.mk A140
            clear A140
            obtain rfl := Option.some.inj H
            go_enter Try.func10, Try.ntmps10
            go_wp2_with (first | ((with_reducible refine gate_callee (f := 15) rfl ?_); refine goesL_ (some 11) rfl rfl Try.func15 (by kernel_rfl) rfl #[.int .i64 a0] rfl (by (try simp only [List.map_toArray, List.map_cons, List.map_nil]); first | done | rfl | (simp only [List.length_drop, List.length_take]; rfl)) ?_; (with_reducible refine (glyph_Put.calls a0 t230 t231 _ A3.out).mono ?_); rintro e w' ⟨rfl, ⟨nd, rfl⟩⟩; refine ⟨_, rfl, ?_⟩) | ((with_reducible refine gate_callee (f := 15) rfl ?_); refine goesL_ (some 16) rfl rfl Try.func15 (by kernel_rfl) rfl #[.int .i64 a1] rfl (by (try simp only [List.map_toArray, List.map_cons, List.map_nil]); first | done | rfl | (simp only [List.length_drop, List.length_take]; rfl)) ?_; (with_reducible refine (glyph_Put.calls a1 t232 t233 _ A4.out).mono ?_); rintro e w' ⟨rfl, ⟨nd, rfl⟩⟩; refine ⟨_, rfl, ?_⟩) | ((with_reducible refine gate_callee (f := 17) rfl ?_); refine goesL_ (some 20) rfl rfl Try.func17 (by kernel_rfl) rfl #[.int .i64 t231] rfl (by (try simp only [List.map_toArray, List.map_cons, List.map_nil]); first | done | rfl | (simp only [List.length_drop, List.length_take]; rfl)) ?_; (with_reducible refine (wharflaw01_num.calls t231 t234 _ A5.out).mono ?_); rintro e w' ⟨rfl, ⟨nd, rfl⟩⟩; refine ⟨_, rfl, ?_⟩) | ((with_reducible refine gate_callee (f := 17) rfl ?_); refine goesL_ (some 22) rfl rfl Try.func17 (by kernel_rfl) rfl #[.int .i64 t233] rfl (by (try simp only [List.map_toArray, List.map_cons, List.map_nil]); first | done | rfl | (simp only [List.length_drop, List.length_take]; rfl)) ?_; (with_reducible refine (wharflaw01_num.calls t233 t235 _ A6.out).mono ?_); rintro e w' ⟨rfl, ⟨nd, rfl⟩⟩; refine ⟨_, rfl, ?_⟩) | (go_at_call 12; (with_reducible refine (wharflaw01_live.calls k  t237 _ A14.out).mono ?_); rintro e w15 ⟨rfl, hb⟩; have n0_ := Aside0.mk (below_step (by repeat (first | (with_reducible first | exact HB.out | apply below_alloc | apply pw_below_drewN | apply below_drew1) | exact HB.out)) hb); clear HB; have HB := n0_; clear n0_; (try clear hb); (try clear hb2); (try clear hk); (try clear hi)))
            go_ret
            exact ⟨by first | rfl | (simp [errW_none, errW_some] <;> rfl) | (simp [*, errW_none, errW_some] <;> rfl), by repeat (first | (with_reducible first | exact HB.out | apply below_alloc | apply pw_below_drewN | apply below_drew1) | exact HB.out)⟩
          · rw [if_neg c13] at H
            have c13b0 : decide ((t232.size : Int) < (t230.size : Int)) = false := decide_eq_false c13
            have c13b1 : decide (t232.size < t230.size) = false := decide_eq_false (fun h => c13 (Int.ofNat_lt.mpr h))
            clear c13
            by_cases c16 : 0 ≤ (t230.size : Int)
            · rw [if_pos c16] at H
              have c16b0 := eq_true c16
              have c16b1 : decide (0 ≤ (t230.size : Int)) = true := decide_eq_true c16
              clear c16
              by_cases c17 : (t230.size : Int) ≤ (t232.size : Int)
              · rw [if_pos c17] at H
                have c17b0 := eq_true c17
                have c17b1 : decide ((t230.size : Int) ≤ (t232.size : Int)) = true := decide_eq_true c17
                clear c17
                by_cases c18 : (t232.extract 0 t230.size).toList = t230.toList
                · rw [if_pos c18] at H
                  have c18b0 : ((t232.extract 0 t230.size).toList == t230.toList) = true := beq_iff_eq.mpr c18
                  have c18b1 : ((t232.extract 0 t230.size).toList != t230.toList) = false := bne_eq_false_iff_eq.mpr c18
                  clear c18
                  obtain rfl := Option.some.inj H
                  go_enter Try.func10, Try.ntmps10
                  go_wp2_with (first | ((with_reducible refine gate_callee (f := 15) rfl ?_); refine goesL_ (some 11) rfl rfl Try.func15 (by kernel_rfl) rfl #[.int .i64 a0] rfl (by (try simp only [List.map_toArray, List.map_cons, List.map_nil]); first | done | rfl | (simp only [List.length_drop, List.length_take]; rfl)) ?_; (with_reducible refine (glyph_Put.calls a0 t230 t231 _ A3.out).mono ?_); rintro e w' ⟨rfl, ⟨nd, rfl⟩⟩; refine ⟨_, rfl, ?_⟩) | ((with_reducible refine gate_callee (f := 15) rfl ?_); refine goesL_ (some 16) rfl rfl Try.func15 (by kernel_rfl) rfl #[.int .i64 a1] rfl (by (try simp only [List.map_toArray, List.map_cons, List.map_nil]); first | done | rfl | (simp only [List.length_drop, List.length_take]; rfl)) ?_; (with_reducible refine (glyph_Put.calls a1 t232 t233 _ A4.out).mono ?_); rintro e w' ⟨rfl, ⟨nd, rfl⟩⟩; refine ⟨_, rfl, ?_⟩) | ((with_reducible refine gate_callee (f := 17) rfl ?_); refine goesL_ (some 20) rfl rfl Try.func17 (by kernel_rfl) rfl #[.int .i64 t231] rfl (by (try simp only [List.map_toArray, List.map_cons, List.map_nil]); first | done | rfl | (simp only [List.length_drop, List.length_take]; rfl)) ?_; (with_reducible refine (wharflaw01_num.calls t231 t234 _ A5.out).mono ?_); rintro e w' ⟨rfl, ⟨nd, rfl⟩⟩; refine ⟨_, rfl, ?_⟩) | ((with_reducible refine gate_callee (f := 17) rfl ?_); refine goesL_ (some 22) rfl rfl Try.func17 (by kernel_rfl) rfl #[.int .i64 t233] rfl (by (try simp only [List.map_toArray, List.map_cons, List.map_nil]); first | done | rfl | (simp only [List.length_drop, List.length_take]; rfl)) ?_; (with_reducible refine (wharflaw01_num.calls t233 t235 _ A6.out).mono ?_); rintro e w' ⟨rfl, ⟨nd, rfl⟩⟩; refine ⟨_, rfl, ?_⟩))
                  go_ret
                  exact ⟨by first | rfl | (simp [errW_none, errW_some] <;> rfl) | (simp [*, errW_none, errW_some] <;> rfl), by repeat (first | (with_reducible first | exact HB.out | apply below_alloc | apply pw_below_drewN | apply below_drew1) | exact HB.out)⟩
                · rw [if_neg c18] at H
                  have c18b0 : ((t232.extract 0 t230.size).toList == t230.toList) = false := beq_eq_false_iff_ne.mpr c18
                  have c18b1 : ((t232.extract 0 t230.size).toList != t230.toList) = true := bne_iff_ne.mpr c18
                  replace H := Option.bind_eq_some_iff.mp H
                  obtain ⟨t238, A190, H⟩ := H
                  replace H : (some t238) = some r := H
                  have A19 := Aside0.mk A190
                  clear A190
                  obtain rfl := Option.some.inj H
                  go_enter Try.func10, Try.ntmps10
                  go_wp2_with (first | ((with_reducible refine gate_callee (f := 15) rfl ?_); refine goesL_ (some 11) rfl rfl Try.func15 (by kernel_rfl) rfl #[.int .i64 a0] rfl (by (try simp only [List.map_toArray, List.map_cons, List.map_nil]); first | done | rfl | (simp only [List.length_drop, List.length_take]; rfl)) ?_; (with_reducible refine (glyph_Put.calls a0 t230 t231 _ A3.out).mono ?_); rintro e w' ⟨rfl, ⟨nd, rfl⟩⟩; refine ⟨_, rfl, ?_⟩) | ((with_reducible refine gate_callee (f := 15) rfl ?_); refine goesL_ (some 16) rfl rfl Try.func15 (by kernel_rfl) rfl #[.int .i64 a1] rfl (by (try simp only [List.map_toArray, List.map_cons, List.map_nil]); first | done | rfl | (simp only [List.length_drop, List.length_take]; rfl)) ?_; (with_reducible refine (glyph_Put.calls a1 t232 t233 _ A4.out).mono ?_); rintro e w' ⟨rfl, ⟨nd, rfl⟩⟩; refine ⟨_, rfl, ?_⟩) | ((with_reducible refine gate_callee (f := 17) rfl ?_); refine goesL_ (some 20) rfl rfl Try.func17 (by kernel_rfl) rfl #[.int .i64 t231] rfl (by (try simp only [List.map_toArray, List.map_cons, List.map_nil]); first | done | rfl | (simp only [List.length_drop, List.length_take]; rfl)) ?_; (with_reducible refine (wharflaw01_num.calls t231 t234 _ A5.out).mono ?_); rintro e w' ⟨rfl, ⟨nd, rfl⟩⟩; refine ⟨_, rfl, ?_⟩) | ((with_reducible refine gate_callee (f := 17) rfl ?_); refine goesL_ (some 22) rfl rfl Try.func17 (by kernel_rfl) rfl #[.int .i64 t233] rfl (by (try simp only [List.map_toArray, List.map_cons, List.map_nil]); first | done | rfl | (simp only [List.length_drop, List.length_take]; rfl)) ?_; (with_reducible refine (wharflaw01_num.calls t233 t235 _ A6.out).mono ?_); rintro e w' ⟨rfl, ⟨nd, rfl⟩⟩; refine ⟨_, rfl, ?_⟩) | (go_at_call 12; (with_reducible refine (wharflaw01_live.calls k  t238 _ A19.out).mono ?_); rintro e w20 ⟨rfl, hb⟩; have n0_ := Aside0.mk (below_step (by repeat (first | (with_reducible first | exact HB.out | apply below_alloc | apply pw_below_drewN | apply below_drew1) | exact HB.out)) hb); clear HB; have HB := n0_; clear n0_; (try clear hb); (try clear hb2); (try clear hk); (try clear hi)))
                  go_ret
                  exact ⟨by first | rfl | (simp [errW_none, errW_some] <;> rfl) | (simp [*, errW_none, errW_some] <;> rfl), by repeat (first | (with_reducible first | exact HB.out | apply below_alloc | apply pw_below_drewN | apply below_drew1) | exact HB.out)⟩
              · rw [if_neg c17] at H
                exact absurd H (by simp)
            · rw [if_neg c16] at H
              exact absurd H (by simp)
  · rw [if_neg c7] at H
    have c7b0 : ((wrap64 (t234 + t235)) == 0) = false := beq_eq_false_iff_ne.mpr c7
    have c7b1 : ((wrap64 (t234 + t235)) != 0) = true := bne_iff_ne.mpr c7
    replace H := Option.bind_eq_some_iff.mp H
    obtain ⟨t239, A210, H⟩ := H
    replace H : (some t239) = some r := H
    have A21 := Aside0.mk A210
    clear A210
    obtain rfl := Option.some.inj H
    go_enter Try.func10, Try.ntmps10
    go_wp2_with (first | ((with_reducible refine gate_callee (f := 15) rfl ?_); refine goesL_ (some 11) rfl rfl Try.func15 (by kernel_rfl) rfl #[.int .i64 a0] rfl (by (try simp only [List.map_toArray, List.map_cons, List.map_nil]); first | done | rfl | (simp only [List.length_drop, List.length_take]; rfl)) ?_; (with_reducible refine (glyph_Put.calls a0 t230 t231 _ A3.out).mono ?_); rintro e w' ⟨rfl, ⟨nd, rfl⟩⟩; refine ⟨_, rfl, ?_⟩) | ((with_reducible refine gate_callee (f := 15) rfl ?_); refine goesL_ (some 16) rfl rfl Try.func15 (by kernel_rfl) rfl #[.int .i64 a1] rfl (by (try simp only [List.map_toArray, List.map_cons, List.map_nil]); first | done | rfl | (simp only [List.length_drop, List.length_take]; rfl)) ?_; (with_reducible refine (glyph_Put.calls a1 t232 t233 _ A4.out).mono ?_); rintro e w' ⟨rfl, ⟨nd, rfl⟩⟩; refine ⟨_, rfl, ?_⟩) | ((with_reducible refine gate_callee (f := 17) rfl ?_); refine goesL_ (some 20) rfl rfl Try.func17 (by kernel_rfl) rfl #[.int .i64 t231] rfl (by (try simp only [List.map_toArray, List.map_cons, List.map_nil]); first | done | rfl | (simp only [List.length_drop, List.length_take]; rfl)) ?_; (with_reducible refine (wharflaw01_num.calls t231 t234 _ A5.out).mono ?_); rintro e w' ⟨rfl, ⟨nd, rfl⟩⟩; refine ⟨_, rfl, ?_⟩) | ((with_reducible refine gate_callee (f := 17) rfl ?_); refine goesL_ (some 22) rfl rfl Try.func17 (by kernel_rfl) rfl #[.int .i64 t233] rfl (by (try simp only [List.map_toArray, List.map_cons, List.map_nil]); first | done | rfl | (simp only [List.length_drop, List.length_take]; rfl)) ?_; (with_reducible refine (wharflaw01_num.calls t233 t235 _ A6.out).mono ?_); rintro e w' ⟨rfl, ⟨nd, rfl⟩⟩; refine ⟨_, rfl, ?_⟩) | ((with_reducible refine gate_callee (f := 12) rfl ?_); refine goesL_ (some 25) rfl rfl Try.func12 (by kernel_rfl) rfl #[] rfl (by (try simp only [List.map_toArray, List.map_cons, List.map_nil]); first | done | rfl | (simp only [List.length_drop, List.length_take]; rfl)) ?_; (with_reducible refine (wharflaw01_live.calls k  t239 _ A21.out).mono ?_); rintro e w22 ⟨rfl, hb⟩; refine ⟨_, rfl, ?_⟩; have n0_ := Aside0.mk (below_step (by repeat (first | (with_reducible first | exact HB.out | apply below_alloc | apply pw_below_drewN | apply below_drew1) | exact HB.out)) hb); clear HB; have HB := n0_; clear n0_; (try clear hb); (try clear hb2); (try clear hk); (try clear hi)))
    go_ret
    exact ⟨by first | rfl | (simp [errW_none, errW_some] <;> rfl) | (simp [*, errW_none, errW_some] <;> rfl), by repeat (first | (with_reducible first | exact HB.out | apply below_alloc | apply pw_below_drewN | apply below_drew1) | exact HB.out)⟩

end Go.Proofs.Ytaplfbnjoifggaa.H
