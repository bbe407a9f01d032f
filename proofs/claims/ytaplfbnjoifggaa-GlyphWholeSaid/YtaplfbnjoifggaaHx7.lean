-- written by hp.py for this claim, out of the kit's printer and texts of my own
import Derived.Test.YtaplfbnjoifggaaHx0
import Derived.Test.YtaplfbnjoifggaaHx12
import Derived.Test.YtaplfbnjoifggaaHx13
import Derived.Test.YtaplfbnjoifggaaHx15
import Derived.Test.YtaplfbnjoifggaaHx17
import Derived.Test.YtaplfbnjoifggaaHx19
namespace Go.Proofs.Ytaplfbnjoifggaa.H
open Go.RowKit Go.Proofs.YtaplfbnjoifggaaW.PrintWords Go.Proofs.YtaplfbnjoifggaaW.PrintLast Go.Proofs.YtaplfbnjoifggaaW.PrintMore
attribute [local go_sem] max2_int min2_int max_two min_two max_three min_three max_four min_four   -- for this text's walks alone
set_option linter.unusedVariables false
set_option linter.unusedSimpArgs false

/-! ### wharflaw01_GlyphWhole: function 7 -/
mutual
def wharflaw01_GlyphWhole.j0 : Nat → ByteArray → Int → Int → Bool → Option (Bool)
  | 0, _, _, _, _ => none
  | k + 1, x0, x5, x6, x60 => if x60 = true then (some false) else ((wharflaw01_num.f x6).bind fun t210 => (if t210 = 0 then (wharflaw01_GlyphWhole.l0 k x0 x5 x0 (⟨#[]⟩ : ByteArray) 0) else ((wharflaw01_live.f k).bind fun t211 => (some t211))))
def wharflaw01_GlyphWhole.l0 : Nat → ByteArray → Int → ByteArray → ByteArray → Int → Option (Bool)
  | 0, _, _, _, _, _ => none
  | k + 1, x0, x5, x11, x12, x13 => if x13 < x5 then ((glyph_First.f x11).bind fun bt213 => ((glyph_Put.f bt213.1).bind fun bt216 => ((wharflaw01_num.f bt213.2.2).bind fun t218 => ((wharflaw01_num.f bt216.2).bind fun t219 => (if (wrap64 (t218 + t219)) = 0 then (if bt213.2.1 < 1 then (some false) else (if bt213.2.1 > (x11.size : Int) then (some false) else (if x12.size + bt216.1.size ≤ 9223372036854775807 then (if 0 ≤ bt213.2.1 then (if bt213.2.1 ≤ (x11.size : Int) then (wharflaw01_GlyphWhole.l0 k x0 x5 (x11.extract (bt213.2.1 : Int).toNat x11.size) (x12 ++ bt216.1) (wrap64 (x13 + 1))) else (none)) else (none)) else (none)))) else (some false)))))) else (if x11.toList = ([] : List UInt8) then (if x12.toList = x0.toList then ((wharflaw01_live.f k).bind fun t212 => (some t212)) else (some false)) else (some false))
end
def wharflaw01_GlyphWhole.f (k : Nat) (a0 : ByteArray) (a1 : ByteArray) : Option (Bool) := if (wrap64 ((a0.size : Int) + (a1.size : Int))) > 5000 then ((wharflaw01_live.f k).bind fun t200 => (some t200)) else ((glyph_Len.f k a0).bind fun bt201 => ((glyph_Len.f k a1).bind fun bt203 => (if a0.size + a1.size ≤ 9223372036854775807 then ((glyph_Len.f k (a0 ++ a1)).bind fun bt205 => ((wharflaw01_num.f bt201.2).bind fun t207 => ((wharflaw01_num.f bt203.2).bind fun t208 => (if (wrap64 (t207 + t208)) = 0 then ((wharflaw01_num.f bt205.2).bind fun t209 => (if t209 = 0 then (wharflaw01_GlyphWhole.j0 k a0 bt201.1 bt201.2 (bt205.1 != (wrap64 (bt201.1 + bt203.1)))) else (wharflaw01_GlyphWhole.j0 k a0 bt201.1 bt201.2 true))) else (wharflaw01_GlyphWhole.j0 k a0 bt201.1 bt201.2 false))))) else (none))))
theorem wharflaw01_GlyphWhole.mono_l : ∀ k, (∀ y0 y1 y2 y3, LeO (wharflaw01_GlyphWhole.j0 k y0 y1 y2 y3) (wharflaw01_GlyphWhole.j0 (k + 1) y0 y1 y2 y3)) ∧ (∀ y0 y1 y2 y3 y4, LeO (wharflaw01_GlyphWhole.l0 k y0 y1 y2 y3 y4) (wharflaw01_GlyphWhole.l0 (k + 1) y0 y1 y2 y3 y4))
  | 0 => ⟨fun _ _ _ _ r h => by simp [wharflaw01_GlyphWhole.j0] at h, fun _ _ _ _ _ r h => by simp [wharflaw01_GlyphWhole.l0] at h⟩
  | k + 1 => by
    obtain ⟨ih0, ih1⟩ := wharflaw01_GlyphWhole.mono_l k
    refine ⟨?_, ?_⟩
    · intro y0 y1 y2 y3
      unfold wharflaw01_GlyphWhole.j0
      repeat' first
      | (with_reducible exact ih0 _ _ _ _)
      | (with_reducible exact ih1 _ _ _ _ _)
      | (with_reducible exact glyph_Len.mono _ _)
      | (with_reducible exact wharflaw01_live.mono _)
      | (with_reducible exact LeO.refl _)
      | (with_reducible exact LeO.none _)
      | (with_reducible refine LeO.ite ?_ ?_)
      | (with_reducible refine LeO.bind ?_ (fun _ => ?_))
      | exact ih0 _ _ _ _
      | exact ih1 _ _ _ _ _
      | exact glyph_Len.mono _ _
      | exact wharflaw01_live.mono _
      | exact LeO.none _
      | refine LeO.ite ?_ ?_
      | refine LeO.bind ?_ (fun _ => ?_)
    · intro y0 y1 y2 y3 y4
      unfold wharflaw01_GlyphWhole.l0
      repeat' first
      | (with_reducible exact ih0 _ _ _ _)
      | (with_reducible exact ih1 _ _ _ _ _)
      | (with_reducible exact glyph_Len.mono _ _)
      | (with_reducible exact wharflaw01_live.mono _)
      | (with_reducible exact LeO.refl _)
      | (with_reducible exact LeO.none _)
      | (with_reducible refine LeO.ite ?_ ?_)
      | (with_reducible refine LeO.bind ?_ (fun _ => ?_))
      | exact ih0 _ _ _ _
      | exact ih1 _ _ _ _ _
      | exact glyph_Len.mono _ _
      | exact wharflaw01_live.mono _
      | exact LeO.none _
      | refine LeO.ite ?_ ?_
      | refine LeO.bind ?_ (fun _ => ?_)
theorem wharflaw01_GlyphWhole.mono : ∀ a0 a1 k, LeO (wharflaw01_GlyphWhole.f k a0 a1) (wharflaw01_GlyphWhole.f (k + 1) a0 a1) := by
  intro a0 a1 k
  obtain ⟨ih0, ih1⟩ := wharflaw01_GlyphWhole.mono_l k
  unfold wharflaw01_GlyphWhole.f
  repeat' first
      | (with_reducible exact ih0 _ _ _ _)
      | (with_reducible exact ih1 _ _ _ _ _)
      | (with_reducible exact glyph_Len.mono _ _)
      | (with_reducible exact wharflaw01_live.mono _)
      | (with_reducible exact LeO.refl _)
      | (with_reducible exact LeO.none _)
      | (with_reducible refine LeO.ite ?_ ?_)
      | (with_reducible refine LeO.bind ?_ (fun _ => ?_))
      | exact ih0 _ _ _ _
      | exact ih1 _ _ _ _ _
      | exact glyph_Len.mono _ _
      | exact wharflaw01_live.mono _
      | exact LeO.none _
      | refine LeO.ite ?_ ?_
      | refine LeO.bind ?_ (fun _ => ?_)
set_option maxHeartbeats 8000000 in
set_option maxRecDepth 100000 in
theorem wharflaw01_GlyphWhole.calls (k : Nat) (a0 : ByteArray) (a1 : ByteArray) (r : Bool) (w : World) (h : wharflaw01_GlyphWhole.f k a0 a1 = some r) :
    Calls Try.prog 7 #[.string a0, .string a1] w fun e w' => e = .returned (.bool r) ∧ Below w.heap.size w w' := by
  have HB := Aside0.mk (Below.refl w.heap.size w)
  have H : (if (wrap64 ((a0.size : Int) + (a1.size : Int))) > 5000 then ((wharflaw01_live.f k).bind fun t200 => (some t200)) else ((glyph_Len.f k a0).bind fun bt201 => ((glyph_Len.f k a1).bind fun bt203 => (if a0.size + a1.size ≤ 9223372036854775807 then ((glyph_Len.f k (a0 ++ a1)).bind fun bt205 => ((wharflaw01_num.f bt201.2).bind fun t207 => ((wharflaw01_num.f bt203.2).bind fun t208 => (if (wrap64 (t207 + t208)) = 0 then ((wharflaw01_num.f bt205.2).bind fun t209 => (if t209 = 0 then (wharflaw01_GlyphWhole.j0 k a0 bt201.1 bt201.2 (bt205.1 != (wrap64 (bt201.1 + bt203.1)))) else (wharflaw01_GlyphWhole.j0 k a0 bt201.1 bt201.2 true))) else (wharflaw01_GlyphWhole.j0 k a0 bt201.1 bt201.2 false))))) else (none))))) = some r := h
  clear h
  by_cases c3 : (wrap64 ((a0.size : Int) + (a1.size : Int))) > 5000
  · rw [if_pos c3] at H
    have c3b0 : decide (5000 < (wrap64 ((a0.size : Int) + (a1.size : Int)))) = true := decide_eq_true c3
    clear c3
    replace H := Option.bind_eq_some_iff.mp H
    obtain ⟨t200, A40, H⟩ := H
    replace H : (some t200) = some r := H
    have A4 := Aside0.mk A40
    clear A40
    obtain rfl := Option.some.inj H
    go_enter Try.func7, Try.ntmps7
    go_wp2_with (first | ((with_reducible refine gate_callee (f := 12) rfl ?_); refine goesL_ (some 25) rfl rfl Try.func12 (by kernel_rfl) rfl #[] rfl (by (try simp only [List.map_toArray, List.map_cons, List.map_nil]); first | done | rfl | (simp only [List.length_drop, List.length_take]; rfl)) ?_; (with_reducible refine (wharflaw01_live.calls k  t200 _ A4.out).mono ?_); rintro e w5 ⟨rfl, hb⟩; refine ⟨_, rfl, ?_⟩; have n0_ := Aside0.mk (below_step (by repeat (first | (with_reducible first | exact HB.out | apply below_alloc | apply pw_below_drewN | apply below_drew1) | exact HB.out)) hb); clear HB; have HB := n0_; clear n0_; (try clear hb); (try clear hb2); (try clear hk); (try clear hi)))
    go_ret
    exact ⟨by first | rfl | (simp [errW_none, errW_some] <;> rfl) | (simp [*, errW_none, errW_some] <;> rfl), by repeat (first | (with_reducible first | exact HB.out | apply below_alloc | apply pw_below_drewN | apply below_drew1) | exact HB.out)⟩
  · rw [if_neg c3] at H
    have c3b0 : decide (5000 < (wrap64 ((a0.size : Int) + (a1.size : Int)))) = false := decide_eq_false c3
    clear c3
    replace H := Option.bind_eq_some_iff.mp H
    obtain ⟨⟨t201, t202⟩, A60, H⟩ := H
    replace H : ((glyph_Len.f k a1).bind fun bt203 => (if a0.size + a1.size ≤ 9223372036854775807 then ((glyph_Len.f k (a0 ++ a1)).bind fun bt205 => ((wharflaw01_num.f t202).bind fun t207 => ((wharflaw01_num.f bt203.2).bind fun t208 => (if (wrap64 (t207 + t208)) = 0 then ((wharflaw01_num.f bt205.2).bind fun t209 => (if t209 = 0 then (wharflaw01_GlyphWhole.j0 k a0 t201 t202 (bt205.1 != (wrap64 (t201 + bt203.1)))) else (wharflaw01_GlyphWhole.j0 k a0 t201 t202 true))) else (wharflaw01_GlyphWhole.j0 k a0 t201 t202 false))))) else (none))) = some r := H
    have A6 := Aside0.mk A60
    clear A60
    replace H := Option.bind_eq_some_iff.mp H
    obtain ⟨⟨t203, t204⟩, A70, H⟩ := H
    replace H : (if a0.size + a1.size ≤ 9223372036854775807 then ((glyph_Len.f k (a0 ++ a1)).bind fun bt205 => ((wharflaw01_num.f t202).bind fun t207 => ((wharflaw01_num.f t204).bind fun t208 => (if (wrap64 (t207 + t208)) = 0 then ((wharflaw01_num.f bt205.2).bind fun t209 => (if t209 = 0 then (wharflaw01_GlyphWhole.j0 k a0 t201 t202 (bt205.1 != (wrap64 (t201 + t203)))) else (wharflaw01_GlyphWhole.j0 k a0 t201 t202 true))) else (wharflaw01_GlyphWhole.j0 k a0 t201 t202 false))))) else (none)) = some r := H
    have A7 := Aside0.mk A70
    clear A70
    by_cases c8 : a0.size + a1.size ≤ 9223372036854775807
    · rw [if_pos c8] at H
      have c8b0 := eq_true c8
      have c8b1 : decide (a0.size + a1.size ≤ 9223372036854775807) = true := decide_eq_true c8
      try have c8b2 : (9223372036854775807 < a0.size + a1.size) = False := eq_false (Nat.not_lt.2 c8)
      (try (have c3b0wc8 := c3b0; rw [show wrap64 ((a0.size : Int) + (a1.size : Int)) = (a0.size : Int) + (a1.size : Int) from by unfold wrap64; omega] at c3b0wc8))
      replace H := Option.bind_eq_some_iff.mp H
      obtain ⟨⟨t205, t206⟩, A90, H⟩ := H
      replace H : ((wharflaw01_num.f t202).bind fun t207 => ((wharflaw01_num.f t204).bind fun t208 => (if (wrap64 (t207 + t208)) = 0 then ((wharflaw01_num.f t206).bind fun t209 => (if t209 = 0 then (wharflaw01_GlyphWhole.j0 k a0 t201 t202 (t205 != (wrap64 (t201 + t203)))) else (wharflaw01_GlyphWhole.j0 k a0 t201 t202 true))) else (wharflaw01_GlyphWhole.j0 k a0 t201 t202 false)))) = some r := H
      have A9 := Aside0.mk A90
      clear A90
      have HC10 := Aside0.mk H
      clear H
      go_enter Try.func7, Try.ntmps7
      go_upto_region 6 with (first | ((with_reducible refine gate_callee (f := 19) rfl ?_); refine goesL_ (some 28) rfl rfl Try.func19 (by kernel_rfl) rfl #[.string a0] rfl (by (try simp only [List.map_toArray, List.map_cons, List.map_nil]); first | done | rfl | (simp only [List.length_drop, List.length_take]; rfl)) ?_; (with_reducible refine (glyph_Len.calls k a0 t201 t202 _ A6.out).mono ?_); rintro e w11 ⟨rfl, hb⟩; refine ⟨_, rfl, ?_⟩; have n0_ := Aside0.mk (below_step (by repeat (first | (with_reducible first | exact HB.out | apply below_alloc | apply pw_below_drewN | apply below_drew1) | exact HB.out)) hb); clear HB; have HB := n0_; clear n0_; (try clear hb); (try clear hb2); (try clear hk); (try clear hi)) | ((with_reducible refine gate_callee (f := 19) rfl ?_); refine goesL_ (some 33) rfl rfl Try.func19 (by kernel_rfl) rfl #[.string a1] rfl (by (try simp only [List.map_toArray, List.map_cons, List.map_nil]); first | done | rfl | (simp only [List.length_drop, List.length_take]; rfl)) ?_; (with_reducible refine (glyph_Len.calls k a1 t203 t204 _ A7.out).mono ?_); rintro e w12 ⟨rfl, hb⟩; refine ⟨_, rfl, ?_⟩; have n0_ := Aside0.mk (below_step (by repeat (first | (with_reducible first | exact HB.out | apply below_alloc | apply pw_below_drewN | apply below_drew1) | exact HB.out)) hb); clear HB; have HB := n0_; clear n0_; (try clear hb); (try clear hb2); (try clear hk); (try clear hi)) | ((with_reducible refine gate_callee (f := 19) rfl ?_); refine goesL_ (some 40) rfl rfl Try.func19 (by kernel_rfl) rfl #[.string (a0 ++ a1)] rfl (by (try simp only [List.map_toArray, List.map_cons, List.map_nil]); first | done | rfl | (simp only [List.length_drop, List.length_take]; rfl)) ?_; (with_reducible refine (glyph_Len.calls k (a0 ++ a1) t205 t206 _ A9.out).mono ?_); rintro e w13 ⟨rfl, hb⟩; refine ⟨_, rfl, ?_⟩; have n0_ := Aside0.mk (below_step (by repeat (first | (with_reducible first | exact HB.out | apply below_alloc | apply pw_below_drewN | apply below_drew1) | exact HB.out)) hb); clear HB; have HB := n0_; clear n0_; (try clear hb); (try clear hb2); (try clear hk); (try clear hi)))
      (try simp only [Act.put, List.setIfInBounds_toArray, List.set_cons_zero, List.set_cons_succ])
      go_cut [60] (fun v60 wc => ∃ (kq : Nat) (x60_9 : Bool), v60 = .bool x60_9 ∧ Aside0 (wharflaw01_GlyphWhole.j0 kq a0 t201 t202 x60_9 = some r) ∧ Aside0 (kq ≤ k) ∧ Aside0 (Below w.heap.size w wc))
      case first =>
        have H := HC10.out
        clear HC10
        replace H := Option.bind_eq_some_iff.mp H
        obtain ⟨t207, A140, H⟩ := H
        replace H : ((wharflaw01_num.f t204).bind fun t208 => (if (wrap64 (t207 + t208)) = 0 then ((wharflaw01_num.f t206).bind fun t209 => (if t209 = 0 then (wharflaw01_GlyphWhole.j0 k a0 t201 t202 (t205 != (wrap64 (t201 + t203)))) else (wharflaw01_GlyphWhole.j0 k a0 t201 t202 true))) else (wharflaw01_GlyphWhole.j0 k a0 t201 t202 false))) = some r := H
        have A14 := Aside0.mk A140
        clear A140
        replace H := Option.bind_eq_some_iff.mp H
        obtain ⟨t208, A150, H⟩ := H
        replace H : (if (wrap64 (t207 + t208)) = 0 then ((wharflaw01_num.f t206).bind fun t209 => (if t209 = 0 then (wharflaw01_GlyphWhole.j0 k a0 t201 t202 (t205 != (wrap64 (t201 + t203)))) else (wharflaw01_GlyphWhole.j0 k a0 t201 t202 true))) else (wharflaw01_GlyphWhole.j0 k a0 t201 t202 false)) = some r := H
        have A15 := Aside0.mk A150
        clear A150
        by_cases c16 : (wrap64 (t207 + t208)) = 0
        · rw [if_pos c16] at H
          have c16b0 : ((wrap64 (t207 + t208)) == 0) = true := beq_iff_eq.mpr c16
          have c16b1 : ((wrap64 (t207 + t208)) != 0) = false := bne_eq_false_iff_eq.mpr c16
          clear c16
          (first | rw [c16b0] | (simp only [i64_w, i32_w]; rw [c16b0]) | skip)
          replace H := Option.bind_eq_some_iff.mp H
          obtain ⟨t209, A170, H⟩ := H
          replace H : (if t209 = 0 then (wharflaw01_GlyphWhole.j0 k a0 t201 t202 (t205 != (wrap64 (t201 + t203)))) else (wharflaw01_GlyphWhole.j0 k a0 t201 t202 true)) = some r := H
          have A17 := Aside0.mk A170
          clear A170
          by_cases c18 : t209 = 0
          · rw [if_pos c18] at H
            have c18b0 : (t209 == 0) = true := beq_iff_eq.mpr c18
            have c18b1 : (t209 != 0) = false := bne_eq_false_iff_eq.mpr c18
            clear c18
            have H' := Aside0.mk H
            clear H
            go_wp2_with (first | ((with_reducible refine gate_callee (f := 17) rfl ?_); refine goesL_ (some 44) rfl rfl Try.func17 (by kernel_rfl) rfl #[.int .i64 t202] rfl (by (try simp only [List.map_toArray, List.map_cons, List.map_nil]); first | done | rfl | (simp only [List.length_drop, List.length_take]; rfl)) ?_; (with_reducible refine (wharflaw01_num.calls t202 t207 _ A14.out).mono ?_); rintro e w' ⟨rfl, ⟨nd, rfl⟩⟩; refine ⟨_, rfl, ?_⟩) | ((with_reducible refine gate_callee (f := 17) rfl ?_); refine goesL_ (some 46) rfl rfl Try.func17 (by kernel_rfl) rfl #[.int .i64 t204] rfl (by (try simp only [List.map_toArray, List.map_cons, List.map_nil]); first | done | rfl | (simp only [List.length_drop, List.length_take]; rfl)) ?_; (with_reducible refine (wharflaw01_num.calls t204 t208 _ A15.out).mono ?_); rintro e w' ⟨rfl, ⟨nd, rfl⟩⟩; refine ⟨_, rfl, ?_⟩) | (go_at_call 17; (with_reducible refine (wharflaw01_num.calls t206 t209 _ A17.out).mono ?_); rintro e w' ⟨rfl, ⟨nd, rfl⟩⟩))
            go_meet
            case rel => exact ⟨_, ((t205 != (wrap64 (t201 + t203)))), (by first | rfl | (simp; done) | (simp [*]; done)), H', ⟨by first | omega | exact Nat.le_refl _⟩, ⟨by repeat (first | (with_reducible first | exact HB.out | apply below_alloc | apply pw_below_drewN | apply below_drew1) | exact HB.out)⟩⟩
          · rw [if_neg c18] at H
            have c18b0 : (t209 == 0) = false := beq_eq_false_iff_ne.mpr c18
            have c18b1 : (t209 != 0) = true := bne_iff_ne.mpr c18
            have H' := Aside0.mk H
            clear H
            go_wp2_with (first | ((with_reducible refine gate_callee (f := 17) rfl ?_); refine goesL_ (some 44) rfl rfl Try.func17 (by kernel_rfl) rfl #[.int .i64 t202] rfl (by (try simp only [List.map_toArray, List.map_cons, List.map_nil]); first | done | rfl | (simp only [List.length_drop, List.length_take]; rfl)) ?_; (with_reducible refine (wharflaw01_num.calls t202 t207 _ A14.out).mono ?_); rintro e w' ⟨rfl, ⟨nd, rfl⟩⟩; refine ⟨_, rfl, ?_⟩) | ((with_reducible refine gate_callee (f := 17) rfl ?_); refine goesL_ (some 46) rfl rfl Try.func17 (by kernel_rfl) rfl #[.int .i64 t204] rfl (by (try simp only [List.map_toArray, List.map_cons, List.map_nil]); first | done | rfl | (simp only [List.length_drop, List.length_take]; rfl)) ?_; (with_reducible refine (wharflaw01_num.calls t204 t208 _ A15.out).mono ?_); rintro e w' ⟨rfl, ⟨nd, rfl⟩⟩; refine ⟨_, rfl, ?_⟩) | (go_at_call 17; (with_reducible refine (wharflaw01_num.calls t206 t209 _ A17.out).mono ?_); rintro e w' ⟨rfl, ⟨nd, rfl⟩⟩))
            go_meet
            case rel => exact ⟨_, (true), (by first | rfl | (simp; done) | (simp [*]; done)), H', ⟨by first | omega | exact Nat.le_refl _⟩, ⟨by repeat (first | (with_reducible first | exact HB.out | apply below_alloc | apply pw_below_drewN | apply below_drew1) | exact HB.out)⟩⟩
        · rw [if_neg c16] at H
          have c16b0 : ((wrap64 (t207 + t208)) == 0) = false := beq_eq_false_iff_ne.mpr c16
          have c16b1 : ((wrap64 (t207 + t208)) != 0) = true := bne_iff_ne.mpr c16
          (first | rw [c16b0] | (simp only [i64_w, i32_w]; rw [c16b0]) | skip)
          have H' := Aside0.mk H
          clear H
          go_wp2_with (first | ((with_reducible refine gate_callee (f := 17) rfl ?_); refine goesL_ (some 44) rfl rfl Try.func17 (by kernel_rfl) rfl #[.int .i64 t202] rfl (by (try simp only [List.map_toArray, List.map_cons, List.map_nil]); first | done | rfl | (simp only [List.length_drop, List.length_take]; rfl)) ?_; (with_reducible refine (wharflaw01_num.calls t202 t207 _ A14.out).mono ?_); rintro e w' ⟨rfl, ⟨nd, rfl⟩⟩; refine ⟨_, rfl, ?_⟩) | ((with_reducible refine gate_callee (f := 17) rfl ?_); refine goesL_ (some 46) rfl rfl Try.func17 (by kernel_rfl) rfl #[.int .i64 t204] rfl (by (try simp only [List.map_toArray, List.map_cons, List.map_nil]); first | done | rfl | (simp only [List.length_drop, List.length_take]; rfl)) ?_; (with_reducible refine (wharflaw01_num.calls t204 t208 _ A15.out).mono ?_); rintro e w' ⟨rfl, ⟨nd, rfl⟩⟩; refine ⟨_, rfl, ?_⟩))
          go_meet
          case rel => exact ⟨_, (false), (by first | rfl | (simp; done) | (simp [*]; done)), H', ⟨by first | omega | exact Nat.le_refl _⟩, ⟨by repeat (first | (with_reducible first | exact HB.out | apply below_alloc | apply pw_below_drewN | apply below_drew1) | exact HB.out)⟩⟩
      case rest =>
        clear HC10
        try clear c1
        try clear p2
        try clear c3
        try clear c3b0
        try clear p6
        try clear c7
        try clear c8
        try clear c8b0
        try clear c8b1
        try clear c8b2
        try clear c12
        try clear c16
        try clear c16b0
        try clear c16b1
        try clear c17
        try clear c18
        try clear c18b0
        try clear c18b1
        obtain ⟨kq, x60_9, rfl, HA, HJ9, HB⟩ := hcut
        cases kq with
        | zero => exact absurd HA.out (by simp [wharflaw01_GlyphWhole.j0])
        | succ kj9 =>
          have H := HA.out
          clear HA
          simp only [wharflaw01_GlyphWhole.j0] at H
          by_cases c19 : x60_9 = true
          · subst c19
            have H1 : (some false) = some r := by rw [if_pos rfl] at H; exact H
            clear H
            have H := H1
            clear H1
            obtain rfl := Option.some.inj H
            go_wp2
            go_ret
            exact ⟨by first | rfl | (simp [errW_none, errW_some] <;> rfl) | (simp [*, errW_none, errW_some] <;> rfl), by repeat (first | (with_reducible first | exact HB.out | apply below_alloc | apply pw_below_drewN | apply below_drew1) | exact HB.out)⟩
          · replace c19 := Bool.eq_false_iff.mpr c19
            subst c19
            have H1 : ((wharflaw01_num.f t202).bind fun t210 => (if t210 = 0 then (wharflaw01_GlyphWhole.l0 kj9 a0 t201 a0 (⟨#[]⟩ : ByteArray) 0) else ((wharflaw01_live.f kj9).bind fun t211 => (some t211)))) = some r := by rw [if_neg (show ¬ (false = true) by decide)] at H; exact H
            clear H
            have H := H1
            clear H1
            replace H := Option.bind_eq_some_iff.mp H
            obtain ⟨t210, A200, H⟩ := H
            replace H : (if t210 = 0 then (wharflaw01_GlyphWhole.l0 kj9 a0 t201 a0 (⟨#[]⟩ : ByteArray) 0) else ((wharflaw01_live.f kj9).bind fun t211 => (some t211))) = some r := H
            have A20 := Aside0.mk A200
            clear A200
            by_cases c21 : t210 = 0
            · rw [if_pos c21] at H
              have c21b0 : (t210 == 0) = true := beq_iff_eq.mpr c21
              have c21b1 : (t210 != 0) = false := bne_eq_false_iff_eq.mpr c21
              clear c21
              have H' := Aside0.mk H
              clear H
              go_wp2_with (first | ((with_reducible refine gate_callee (f := 17) rfl ?_); refine goesL_ (some 62) rfl rfl Try.func17 (by kernel_rfl) rfl #[.int .i64 t202] rfl (by (try simp only [List.map_toArray, List.map_cons, List.map_nil]); first | done | rfl | (simp only [List.length_drop, List.length_take]; rfl)) ?_; (with_reducible refine (wharflaw01_num.calls t202 t210 _ A20.out).mono ?_); rintro e w' ⟨rfl, ⟨nd, rfl⟩⟩; refine ⟨_, rfl, ?_⟩))
              go_loopg [11, 12, 13] kj9 (fun kq v11 v12 v13 w' => ∃ (x11_2 : ByteArray) (x12_2 : ByteArray) (x13_2 : Int), v11 = .string x11_2 ∧ v12 = .string x12_2 ∧ v13 = .int .i64 x13_2 ∧ Aside0 (wharflaw01_GlyphWhole.l0 kq a0 t201 x11_2 x12_2 x13_2 = some r) ∧ Aside0 (kq ≤ kj9) ∧ Aside0 (Below w.heap.size w w'))
              case atStart => exact ⟨(a0), ((⟨#[]⟩ : ByteArray)), (0), (by first | rfl | (simp; done) | (simp [*]; done)), (by first | rfl | (simp; done) | (simp [*]; done)), (by first | rfl | (simp; done) | (simp [*]; done)), H', ⟨Nat.le_refl _⟩, ⟨by repeat (first | (with_reducible first | exact HB.out | apply below_alloc | apply pw_below_drewN | apply below_drew1) | exact HB.out)⟩⟩
              case round =>
                clear H'
                try clear c1
                try clear c2
                try clear p2
                try clear c3
                try clear c3b0
                try clear p6
                try clear c7
                try clear c8
                try clear c8b0
                try clear c8b1
                try clear c8b2
                try clear c12
                try clear c16
                try clear c16b0
                try clear c16b1
                try clear c17
                try clear c18
                try clear c18b0
                try clear c18b1
                try clear c19
                try clear c21
                try clear c21b0
                try clear c21b1
                try clear p2
                try clear p6
                obtain ⟨x11_2, x12_2, x13_2, rfl, rfl, rfl, HA, HK2, HB⟩ := hrel
                cases gk with
                | zero => exact absurd HA.out (by simp [wharflaw01_GlyphWhole.l0])
                | succ k2 =>
                  have H := HA.out
                  clear HA
                  simp only [wharflaw01_GlyphWhole.l0] at H
                  by_cases c22 : x13_2 < t201
                  · rw [if_pos c22] at H
                    have c22b0 : decide (x13_2 < t201) = true := decide_eq_true c22
                    clear c22
                    replace H := Option.bind_eq_some_iff.mp H
                    obtain ⟨⟨t213, t214, t215⟩, A230, H⟩ := H
                    replace H : ((glyph_Put.f t213).bind fun bt216 => ((wharflaw01_num.f t215).bind fun t218 => ((wharflaw01_num.f bt216.2).bind fun t219 => (if (wrap64 (t218 + t219)) = 0 then (if t214 < 1 then (some false) else (if t214 > (x11_2.size : Int) then (some false) else (if x12_2.size + bt216.1.size ≤ 9223372036854775807 then (if 0 ≤ t214 then (if t214 ≤ (x11_2.size : Int) then (wharflaw01_GlyphWhole.l0 k2 a0 t201 (x11_2.extract (t214 : Int).toNat x11_2.size) (x12_2 ++ bt216.1) (wrap64 (x13_2 + 1))) else (none)) else (none)) else (none)))) else (some false))))) = some r := H
                    have A23 := Aside0.mk A230
                    clear A230
                    replace H := Option.bind_eq_some_iff.mp H
                    obtain ⟨⟨t216, t217⟩, A240, H⟩ := H
                    replace H : ((wharflaw01_num.f t215).bind fun t218 => ((wharflaw01_num.f t217).bind fun t219 => (if (wrap64 (t218 + t219)) = 0 then (if t214 < 1 then (some false) else (if t214 > (x11_2.size : Int) then (some false) else (if x12_2.size + t216.size ≤ 9223372036854775807 then (if 0 ≤ t214 then (if t214 ≤ (x11_2.size : Int) then (wharflaw01_GlyphWhole.l0 k2 a0 t201 (x11_2.extract (t214 : Int).toNat x11_2.size) (x12_2 ++ t216) (wrap64 (x13_2 + 1))) else (none)) else (none)) else (none)))) else (some false)))) = some r := H
                    have A24 := Aside0.mk A240
                    clear A240
                    replace H := Option.bind_eq_some_iff.mp H
                    obtain ⟨t218, A250, H⟩ := H
                    replace H : ((wharflaw01_num.f t217).bind fun t219 => (if (wrap64 (t218 + t219)) = 0 then (if t214 < 1 then (some false) else (if t214 > (x11_2.size : Int) then (some false) else (if x12_2.size + t216.size ≤ 9223372036854775807 then (if 0 ≤ t214 then (if t214 ≤ (x11_2.size : Int) then (wharflaw01_GlyphWhole.l0 k2 a0 t201 (x11_2.extract (t214 : Int).toNat x11_2.size) (x12_2 ++ t216) (wrap64 (x13_2 + 1))) else (none)) else (none)) else (none)))) else (some false))) = some r := H
                    have A25 := Aside0.mk A250
                    clear A250
                    replace H := Option.bind_eq_some_iff.mp H
                    obtain ⟨t219, A260, H⟩ := H
                    replace H : (if (wrap64 (t218 + t219)) = 0 then (if t214 < 1 then (some false) else (if t214 > (x11_2.size : Int) then (some false) else (if x12_2.size + t216.size ≤ 9223372036854775807 then (if 0 ≤ t214 then (if t214 ≤ (x11_2.size : Int) then (wharflaw01_GlyphWhole.l0 k2 a0 t201 (x11_2.extract (t214 : Int).toNat x11_2.size) (x12_2 ++ t216) (wrap64 (x13_2 + 1))) else (none)) else (none)) else (none)))) else (some false)) = some r := H
                    have A26 := Aside0.mk A260
                    clear A260
                    by_cases c27 : (wrap64 (t218 + t219)) = 0
                    · rw [if_pos c27] at H
                      have c27b0 : ((wrap64 (t218 + t219)) == 0) = true := beq_iff_eq.mpr c27
                      have c27b1 : ((wrap64 (t218 + t219)) != 0) = false := bne_eq_false_iff_eq.mpr c27
                      clear c27
                      by_cases c28 : t214 < 1
                      · rw [if_pos c28] at H
                        have c28b0 : decide (t214 < 1) = true := decide_eq_true c28
                        clear c28
                        obtain rfl := Option.some.inj H
                        go_wp2_with (first | ((with_reducible refine gate_callee (f := 13) rfl ?_); refine goesL_ (some 73) rfl rfl Try.func13 (by kernel_rfl) rfl #[.string x11_2] rfl (by (try simp only [List.map_toArray, List.map_cons, List.map_nil]); first | done | rfl | (simp only [List.length_drop, List.length_take]; rfl)) ?_; (with_reducible refine (glyph_First.calls x11_2 t213 t214 t215 _ A23.out).mono ?_); rintro e w29 ⟨rfl, hb⟩; refine ⟨_, rfl, ?_⟩; have n0_ := Aside0.mk (below_step (by repeat (first | (with_reducible first | exact HB.out | apply below_alloc | apply pw_below_drewN | apply below_drew1) | exact HB.out)) hb); clear HB; have HB := n0_; clear n0_; (try clear hb); (try clear hb2); (try clear hk); (try clear hi)) | ((with_reducible refine gate_callee (f := 15) rfl ?_); refine goesL_ (some 79) rfl rfl Try.func15 (by kernel_rfl) rfl #[.int .i64 t213] rfl (by (try simp only [List.map_toArray, List.map_cons, List.map_nil]); first | done | rfl | (simp only [List.length_drop, List.length_take]; rfl)) ?_; (with_reducible refine (glyph_Put.calls t213 t216 t217 _ A24.out).mono ?_); rintro e w' ⟨rfl, ⟨nd, rfl⟩⟩; refine ⟨_, rfl, ?_⟩) | ((with_reducible refine gate_callee (f := 17) rfl ?_); refine goesL_ (some 83) rfl rfl Try.func17 (by kernel_rfl) rfl #[.int .i64 t215] rfl (by (try simp only [List.map_toArray, List.map_cons, List.map_nil]); first | done | rfl | (simp only [List.length_drop, List.length_take]; rfl)) ?_; (with_reducible refine (wharflaw01_num.calls t215 t218 _ A25.out).mono ?_); rintro e w' ⟨rfl, ⟨nd, rfl⟩⟩; refine ⟨_, rfl, ?_⟩) | ((with_reducible refine gate_callee (f := 17) rfl ?_); refine goesL_ (some 85) rfl rfl Try.func17 (by kernel_rfl) rfl #[.int .i64 t217] rfl (by (try simp only [List.map_toArray, List.map_cons, List.map_nil]); first | done | rfl | (simp only [List.length_drop, List.length_take]; rfl)) ?_; (with_reducible refine (wharflaw01_num.calls t217 t219 _ A26.out).mono ?_); rintro e w' ⟨rfl, ⟨nd, rfl⟩⟩; refine ⟨_, rfl, ?_⟩))
                        go_ret
                        exact ⟨by first | rfl | (simp [errW_none, errW_some] <;> rfl) | (simp [*, errW_none, errW_some] <;> rfl), by repeat (first | (with_reducible first | exact HB.out | apply below_alloc | apply pw_below_drewN | apply below_drew1) | exact HB.out)⟩
                      · rw [if_neg c28] at H
                        have c28b0 : decide (t214 < 1) = false := decide_eq_false c28
                        clear c28
                        by_cases c30 : t214 > (x11_2.size : Int)
                        · rw [if_pos c30] at H
                          have c30b0 : decide ((x11_2.size : Int) < t214) = true := decide_eq_true c30
                          clear c30
                          obtain rfl := Option.some.inj H
                          go_wp2_with (first | ((with_reducible refine gate_callee (f := 13) rfl ?_); refine goesL_ (some 73) rfl rfl Try.func13 (by kernel_rfl) rfl #[.string x11_2] rfl (by (try simp only [List.map_toArray, List.map_cons, List.map_nil]); first | done | rfl | (simp only [List.length_drop, List.length_take]; rfl)) ?_; (with_reducible refine (glyph_First.calls x11_2 t213 t214 t215 _ A23.out).mono ?_); rintro e w31 ⟨rfl, hb⟩; refine ⟨_, rfl, ?_⟩; have n0_ := Aside0.mk (below_step (by repeat (first | (with_reducible first | exact HB.out | apply below_alloc | apply pw_below_drewN | apply below_drew1) | exact HB.out)) hb); clear HB; have HB := n0_; clear n0_; (try clear hb); (try clear hb2); (try clear hk); (try clear hi)) | ((with_reducible refine gate_callee (f := 15) rfl ?_); refine goesL_ (some 79) rfl rfl Try.func15 (by kernel_rfl) rfl #[.int .i64 t213] rfl (by (try simp only [List.map_toArray, List.map_cons, List.map_nil]); first | done | rfl | (simp only [List.length_drop, List.length_take]; rfl)) ?_; (with_reducible refine (glyph_Put.calls t213 t216 t217 _ A24.out).mono ?_); rintro e w' ⟨rfl, ⟨nd, rfl⟩⟩; refine ⟨_, rfl, ?_⟩) | ((with_reducible refine gate_callee (f := 17) rfl ?_); refine goesL_ (some 83) rfl rfl Try.func17 (by kernel_rfl) rfl #[.int .i64 t215] rfl (by (try simp only [List.map_toArray, List.map_cons, List.map_nil]); first | done | rfl | (simp only [List.length_drop, List.length_take]; rfl)) ?_; (with_reducible refine (wharflaw01_num.calls t215 t218 _ A25.out).mono ?_); rintro e w' ⟨rfl, ⟨nd, rfl⟩⟩; refine ⟨_, rfl, ?_⟩) | ((with_reducible refine gate_callee (f := 17) rfl ?_); refine goesL_ (some 85) rfl rfl Try.func17 (by kernel_rfl) rfl #[.int .i64 t217] rfl (by (try simp only [List.map_toArray, List.map_cons, List.map_nil]); first | done | rfl | (simp only [List.length_drop, List.length_take]; rfl)) ?_; (with_reducible refine (wharflaw01_num.calls t217 t219 _ A26.out).mono ?_); rintro e w' ⟨rfl, ⟨nd, rfl⟩⟩; refine ⟨_, rfl, ?_⟩))
                          go_ret
                          exact ⟨by first | rfl | (simp [errW_none, errW_some] <;> rfl) | (simp [*, errW_none, errW_some] <;> rfl), by repeat (first | (with_reducible first | exact HB.out | apply below_alloc | apply pw_below_drewN | apply below_drew1) | exact HB.out)⟩
                        · rw [if_neg c30] at H
                          have c30b0 : decide ((x11_2.size : Int) < t214) = false := decide_eq_false c30
                          clear c30
                          by_cases c32 : x12_2.size + t216.size ≤ 9223372036854775807
                          · rw [if_pos c32] at H
                            have c32b0 := eq_true c32
                            have c32b1 : decide (x12_2.size + t216.size ≤ 9223372036854775807) = true := decide_eq_true c32
                            try have c32b2 : (9223372036854775807 < x12_2.size + t216.size) = False := eq_false (Nat.not_lt.2 c32)
                            (try (have c3b0wc32 := c3b0; rw [show wrap64 ((a0.size : Int) + (a1.size : Int)) = (a0.size : Int) + (a1.size : Int) from by unfold wrap64; omega] at c3b0wc32))
                            by_cases c33 : 0 ≤ t214
                            · rw [if_pos c33] at H
                              have c33b0 := eq_true c33
                              have c33b1 : decide (0 ≤ t214) = true := decide_eq_true c33
                              clear c33
                              by_cases c34 : t214 ≤ (x11_2.size : Int)
                              · rw [if_pos c34] at H
                                have c34b0 := eq_true c34
                                have c34b1 : decide (t214 ≤ (x11_2.size : Int)) = true := decide_eq_true c34
                                clear c34
                                have H' := Aside0.mk H
                                clear H
                                go_wp2_with (first | ((with_reducible refine gate_callee (f := 13) rfl ?_); refine goesL_ (some 73) rfl rfl Try.func13 (by kernel_rfl) rfl #[.string x11_2] rfl (by (try simp only [List.map_toArray, List.map_cons, List.map_nil]); first | done | rfl | (simp only [List.length_drop, List.length_take]; rfl)) ?_; (with_reducible refine (glyph_First.calls x11_2 t213 t214 t215 _ A23.out).mono ?_); rintro e w35 ⟨rfl, hb⟩; refine ⟨_, rfl, ?_⟩; have n0_ := Aside0.mk (below_step (by repeat (first | (with_reducible first | exact HB.out | apply below_alloc | apply pw_below_drewN | apply below_drew1) | exact HB.out)) hb); clear HB; have HB := n0_; clear n0_; (try clear hb); (try clear hb2); (try clear hk); (try clear hi)) | ((with_reducible refine gate_callee (f := 15) rfl ?_); refine goesL_ (some 79) rfl rfl Try.func15 (by kernel_rfl) rfl #[.int .i64 t213] rfl (by (try simp only [List.map_toArray, List.map_cons, List.map_nil]); first | done | rfl | (simp only [List.length_drop, List.length_take]; rfl)) ?_; (with_reducible refine (glyph_Put.calls t213 t216 t217 _ A24.out).mono ?_); rintro e w' ⟨rfl, ⟨nd, rfl⟩⟩; refine ⟨_, rfl, ?_⟩) | ((with_reducible refine gate_callee (f := 17) rfl ?_); refine goesL_ (some 83) rfl rfl Try.func17 (by kernel_rfl) rfl #[.int .i64 t215] rfl (by (try simp only [List.map_toArray, List.map_cons, List.map_nil]); first | done | rfl | (simp only [List.length_drop, List.length_take]; rfl)) ?_; (with_reducible refine (wharflaw01_num.calls t215 t218 _ A25.out).mono ?_); rintro e w' ⟨rfl, ⟨nd, rfl⟩⟩; refine ⟨_, rfl, ?_⟩) | ((with_reducible refine gate_callee (f := 17) rfl ?_); refine goesL_ (some 85) rfl rfl Try.func17 (by kernel_rfl) rfl #[.int .i64 t217] rfl (by (try simp only [List.map_toArray, List.map_cons, List.map_nil]); first | done | rfl | (simp only [List.length_drop, List.length_take]; rfl)) ?_; (with_reducible refine (wharflaw01_num.calls t217 t219 _ A26.out).mono ?_); rintro e w' ⟨rfl, ⟨nd, rfl⟩⟩; refine ⟨_, rfl, ?_⟩))
                                go_roundg k2
                                case measure => have := HJ9.out; have := HK2.out; omega
                                case rel => exact ⟨(x11_2.extract (t214 : Int).toNat x11_2.size), (x12_2 ++ t216), (wrap64 (x13_2 + 1)), (by first | rfl | (simp; done) | (simp [*]; done)), (by first | rfl | (simp; done) | (simp [*]; done)), (by first | rfl | (simp; done) | (simp [*]; done)), H', ⟨by have := HJ9.out; have := HK2.out; omega⟩, ⟨by repeat (first | (with_reducible first | exact HB.out | apply below_alloc | apply pw_below_drewN | apply below_drew1) | exact HB.out)⟩⟩
                              · rw [if_neg c34] at H
                                exact absurd H (by simp)
                            · rw [if_neg c33] at H
                              exact absurd H (by simp)
                          · rw [if_neg c32] at H
                            exact absurd H (by simp)
                    · rw [if_neg c27] at H
                      have c27b0 : ((wrap64 (t218 + t219)) == 0) = false := beq_eq_false_iff_ne.mpr c27
                      have c27b1 : ((wrap64 (t218 + t219)) != 0) = true := bne_iff_ne.mpr c27
                      obtain rfl := Option.some.inj H
                      go_wp2_with (first | ((with_reducible refine gate_callee (f := 13) rfl ?_); refine goesL_ (some 73) rfl rfl Try.func13 (by kernel_rfl) rfl #[.string x11_2] rfl (by (try simp only [List.map_toArray, List.map_cons, List.map_nil]); first | done | rfl | (simp only [List.length_drop, List.length_take]; rfl)) ?_; (with_reducible refine (glyph_First.calls x11_2 t213 t214 t215 _ A23.out).mono ?_); rintro e w36 ⟨rfl, hb⟩; refine ⟨_, rfl, ?_⟩; have n0_ := Aside0.mk (below_step (by repeat (first | (with_reducible first | exact HB.out | apply below_alloc | apply pw_below_drewN | apply below_drew1) | exact HB.out)) hb); clear HB; have HB := n0_; clear n0_; (try clear hb); (try clear hb2); (try clear hk); (try clear hi)) | ((with_reducible refine gate_callee (f := 15) rfl ?_); refine goesL_ (some 79) rfl rfl Try.func15 (by kernel_rfl) rfl #[.int .i64 t213] rfl (by (try simp only [List.map_toArray, List.map_cons, List.map_nil]); first | done | rfl | (simp only [List.length_drop, List.length_take]; rfl)) ?_; (with_reducible refine (glyph_Put.calls t213 t216 t217 _ A24.out).mono ?_); rintro e w' ⟨rfl, ⟨nd, rfl⟩⟩; refine ⟨_, rfl, ?_⟩) | ((with_reducible refine gate_callee (f := 17) rfl ?_); refine goesL_ (some 83) rfl rfl Try.func17 (by kernel_rfl) rfl #[.int .i64 t215] rfl (by (try simp only [List.map_toArray, List.map_cons, List.map_nil]); first | done | rfl | (simp only [List.length_drop, List.length_take]; rfl)) ?_; (with_reducible refine (wharflaw01_num.calls t215 t218 _ A25.out).mono ?_); rintro e w' ⟨rfl, ⟨nd, rfl⟩⟩; refine ⟨_, rfl, ?_⟩) | ((with_reducible refine gate_callee (f := 17) rfl ?_); refine goesL_ (some 85) rfl rfl Try.func17 (by kernel_rfl) rfl #[.int .i64 t217] rfl (by (try simp only [List.map_toArray, List.map_cons, List.map_nil]); first | done | rfl | (simp only [List.length_drop, List.length_take]; rfl)) ?_; (with_reducible refine (wharflaw01_num.calls t217 t219 _ A26.out).mono ?_); rintro e w' ⟨rfl, ⟨nd, rfl⟩⟩; refine ⟨_, rfl, ?_⟩))
                      go_ret
                      exact ⟨by first | rfl | (simp [errW_none, errW_some] <;> rfl) | (simp [*, errW_none, errW_some] <;> rfl), by repeat (first | (with_reducible first | exact HB.out | apply below_alloc | apply pw_below_drewN | apply below_drew1) | exact HB.out)⟩
                  · rw [if_neg c22] at H
                    have c22b0 : decide (x13_2 < t201) = false := decide_eq_false c22
                    clear c22
                    by_cases c37 : x11_2.toList = ([] : List UInt8)
                    · rw [if_pos c37] at H
                      have c37b0 : (x11_2.toList == ([] : List UInt8)) = true := beq_iff_eq.mpr c37
                      have c37b1 : (x11_2.toList != ([] : List UInt8)) = false := bne_eq_false_iff_eq.mpr c37
                      clear c37
                      by_cases c38 : x12_2.toList = a0.toList
                      · rw [if_pos c38] at H
                        have c38b0 : (x12_2.toList == a0.toList) = true := beq_iff_eq.mpr c38
                        have c38b1 : (x12_2.toList != a0.toList) = false := bne_eq_false_iff_eq.mpr c38
                        clear c38
                        replace H := Option.bind_eq_some_iff.mp H
                        obtain ⟨t212, A390, H⟩ := H
                        replace H : (some t212) = some r := H
                        have A39 := Aside0.mk A390
                        clear A390
                        obtain rfl := Option.some.inj H
                        go_wp2_with (first | (go_at_call 12; (with_reducible refine (wharflaw01_live.calls k2  t212 _ A39.out).mono ?_); rintro e w40 ⟨rfl, hb⟩; have n0_ := Aside0.mk (below_step (by repeat (first | (with_reducible first | exact HB.out | apply below_alloc | apply pw_below_drewN | apply below_drew1) | exact HB.out)) hb); clear HB; have HB := n0_; clear n0_; (try clear hb); (try clear hb2); (try clear hk); (try clear hi)))
                        go_ret
                        exact ⟨by first | rfl | (simp [errW_none, errW_some] <;> rfl) | (simp [*, errW_none, errW_some] <;> rfl), by repeat (first | (with_reducible first | exact HB.out | apply below_alloc | apply pw_below_drewN | apply below_drew1) | exact HB.out)⟩
                      · rw [if_neg c38] at H
                        have c38b0 : (x12_2.toList == a0.toList) = false := beq_eq_false_iff_ne.mpr c38
                        have c38b1 : (x12_2.toList != a0.toList) = true := bne_iff_ne.mpr c38
                        obtain rfl := Option.some.inj H
                        go_wp2
                        go_ret
                        exact ⟨by first | rfl | (simp [errW_none, errW_some] <;> rfl) | (simp [*, errW_none, errW_some] <;> rfl), by repeat (first | (with_reducible first | exact HB.out | apply below_alloc | apply pw_below_drewN | apply below_drew1) | exact HB.out)⟩
                    · rw [if_neg c37] at H
                      have c37b0 : (x11_2.toList == ([] : List UInt8)) = false := beq_eq_false_iff_ne.mpr c37
                      have c37b1 : (x11_2.toList != ([] : List UInt8)) = true := bne_iff_ne.mpr c37
                      obtain rfl := Option.some.inj H
                      go_wp2
                      go_ret
                      exact ⟨by first | rfl | (simp [errW_none, errW_some] <;> rfl) | (simp [*, errW_none, errW_some] <;> rfl), by repeat (first | (with_reducible first | exact HB.out | apply below_alloc | apply pw_below_drewN | apply below_drew1) | exact HB.out)⟩
            · rw [if_neg c21] at H
              have c21b0 : (t210 == 0) = false := beq_eq_false_iff_ne.mpr c21
              have c21b1 : (t210 != 0) = true := bne_iff_ne.mpr c21
              replace H := Option.bind_eq_some_iff.mp H
              obtain ⟨t211, A410, H⟩ := H
              replace H : (some t211) = some r := H
              have A41 := Aside0.mk A410
              clear A410
              obtain rfl := Option.some.inj H
              go_wp2_with (first | ((with_reducible refine gate_callee (f := 17) rfl ?_); refine goesL_ (some 62) rfl rfl Try.func17 (by kernel_rfl) rfl #[.int .i64 t202] rfl (by (try simp only [List.map_toArray, List.map_cons, List.map_nil]); first | done | rfl | (simp only [List.length_drop, List.length_take]; rfl)) ?_; (with_reducible refine (wharflaw01_num.calls t202 t210 _ A20.out).mono ?_); rintro e w' ⟨rfl, ⟨nd, rfl⟩⟩; refine ⟨_, rfl, ?_⟩) | ((with_reducible refine gate_callee (f := 12) rfl ?_); refine goesL_ (some 64) rfl rfl Try.func12 (by kernel_rfl) rfl #[] rfl (by (try simp only [List.map_toArray, List.map_cons, List.map_nil]); first | done | rfl | (simp only [List.length_drop, List.length_take]; rfl)) ?_; (with_reducible refine (wharflaw01_live.calls kj9  t211 _ A41.out).mono ?_); rintro e w42 ⟨rfl, hb⟩; refine ⟨_, rfl, ?_⟩; have n0_ := Aside0.mk (below_step (by repeat (first | (with_reducible first | exact HB.out | apply below_alloc | apply pw_below_drewN | apply below_drew1) | exact HB.out)) hb); clear HB; have HB := n0_; clear n0_; (try clear hb); (try clear hb2); (try clear hk); (try clear hi)))
              go_ret
              exact ⟨by first | rfl | (simp [errW_none, errW_some] <;> rfl) | (simp [*, errW_none, errW_some] <;> rfl), by repeat (first | (with_reducible first | exact HB.out | apply below_alloc | apply pw_below_drewN | apply below_drew1) | exact HB.out)⟩
    · rw [if_neg c8] at H
      exact absurd H (by simp)

end Go.Proofs.Ytaplfbnjoifggaa.H
