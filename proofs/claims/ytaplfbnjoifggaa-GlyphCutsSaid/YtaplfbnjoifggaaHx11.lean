-- written by hp.py for this claim, out of the kit's printer and texts of my own
import Derived.Test.YtaplfbnjoifggaaHx0
import Derived.Test.YtaplfbnjoifggaaHx12
import Derived.Test.YtaplfbnjoifggaaHx17
import Derived.Test.YtaplfbnjoifggaaHx20
import Derived.Test.YtaplfbnjoifggaaHx21
import Derived.Test.YtaplfbnjoifggaaHx23
import Derived.Test.YtaplfbnjoifggaaHx25
namespace Go.Proofs.Ytaplfbnjoifggaa.H
open Go.RowKit Go.Proofs.YtaplfbnjoifggaaW.PrintWords Go.Proofs.YtaplfbnjoifggaaW.PrintLast Go.Proofs.YtaplfbnjoifggaaW.PrintMore
attribute [local go_sem] max2_int min2_int max_two min_two max_three min_three max_four min_four   -- for this text's walks alone
set_option linter.unusedVariables false
set_option linter.unusedSimpArgs false

/-! ### wharflaw01_GlyphCuts: function 11 -/
mutual
def wharflaw01_GlyphCuts.j0 : Nat → ByteArray → Int → Bool → Option (Bool)
  | 0, _, _, _ => none
  | k + 1, x0, x1, x15 => if x15 = true then ((wharflaw01_live.f k).bind fun t242 => (some t242)) else ((glyph_Head.f k x0 x1).bind fun t243 => ((glyph_Trim.f k x0).bind fun t244 => (if (t243.size : Int) > (x0.size : Int) then (wharflaw01_GlyphCuts.j1 k x0 t243 t244 true) else (wharflaw01_GlyphCuts.j1 k x0 t243 t244 (decide ((t244.size : Int) > (x0.size : Int)))))))
def wharflaw01_GlyphCuts.j1 : Nat → ByteArray → ByteArray → ByteArray → Bool → Option (Bool)
  | 0, _, _, _, _ => none
  | k + 1, x0, x5, x6, x33 => if x33 = true then (some false) else (if 0 ≤ (x5.size : Int) then (if (x5.size : Int) ≤ (x0.size : Int) then ((glyph_Check.f k (x0.extract x5.size x0.size)).bind fun t245 => ((wharflaw01_num.f t245).bind fun t246 => (if t246 = 0 then ((glyph_Check.f k x6).bind fun t247 => ((wharflaw01_num.f t247).bind fun t248 => (if t248 = 0 then ((glyph_Trim.f k x6).bind fun t249 => (if t249.toList = x6.toList then (if 1 + x0.size ≤ 9223372036854775807 then (if ((⟨#[32]⟩ : ByteArray) ++ x0).size + 1 ≤ 9223372036854775807 then ((glyph_Trim.f k (((⟨#[32]⟩ : ByteArray) ++ x0) ++ (⟨#[10]⟩ : ByteArray))).bind fun t250 => (if t250.toList = x6.toList then ((glyph_Fold.f x0).bind fun t251 => ((glyph_Check.f k t251).bind fun t252 => ((wharflaw01_num.f t252).bind fun t253 => (if t253 = 0 then ((wharflaw01_live.f k).bind fun t254 => (some t254)) else (some false))))) else (some false))) else (none)) else (none)) else (some false))) else (some false)))) else (some false)))) else (none)) else (none))
end
def wharflaw01_GlyphCuts.f (k : Nat) (a0 : ByteArray) (a1 : Int) : Option (Bool) := if (a0.size : Int) > 5000 then (wharflaw01_GlyphCuts.j0 k a0 a1 true) else ((glyph_Check.f k a0).bind fun t240 => ((wharflaw01_num.f t240).bind fun t241 => (wharflaw01_GlyphCuts.j0 k a0 a1 (t241 != 0))))
theorem wharflaw01_GlyphCuts.mono_l : ∀ k, (∀ y0 y1 y2, LeO (wharflaw01_GlyphCuts.j0 k y0 y1 y2) (wharflaw01_GlyphCuts.j0 (k + 1) y0 y1 y2)) ∧ (∀ y0 y1 y2 y3, LeO (wharflaw01_GlyphCuts.j1 k y0 y1 y2 y3) (wharflaw01_GlyphCuts.j1 (k + 1) y0 y1 y2 y3))
  | 0 => ⟨fun _ _ _ r h => by simp [wharflaw01_GlyphCuts.j0] at h, fun _ _ _ _ r h => by simp [wharflaw01_GlyphCuts.j1] at h⟩
  | k + 1 => by
    obtain ⟨ih0, ih1⟩ := wharflaw01_GlyphCuts.mono_l k
    refine ⟨?_, ?_⟩
    · intro y0 y1 y2
      unfold wharflaw01_GlyphCuts.j0
      repeat' first
      | (with_reducible exact ih0 _ _ _)
      | (with_reducible exact ih1 _ _ _ _)
      | (with_reducible exact glyph_Check.mono _ _)
      | (with_reducible exact glyph_Head.mono _ _ _)
      | (with_reducible exact glyph_Trim.mono _ _)
      | (with_reducible exact wharflaw01_live.mono _)
      | (with_reducible exact LeO.refl _)
      | (with_reducible exact LeO.none _)
      | (with_reducible refine LeO.ite ?_ ?_)
      | (with_reducible refine LeO.bind ?_ (fun _ => ?_))
      | exact ih0 _ _ _
      | exact ih1 _ _ _ _
      | exact glyph_Check.mono _ _
      | exact glyph_Head.mono _ _ _
      | exact glyph_Trim.mono _ _
      | exact wharflaw01_live.mono _
      | exact LeO.none _
      | refine LeO.ite ?_ ?_
      | refine LeO.bind ?_ (fun _ => ?_)
    · intro y0 y1 y2 y3
      unfold wharflaw01_GlyphCuts.j1
      repeat' first
      | (with_reducible exact ih0 _ _ _)
      | (with_reducible exact ih1 _ _ _ _)
      | (with_reducible exact glyph_Check.mono _ _)
      | (with_reducible exact glyph_Head.mono _ _ _)
      | (with_reducible exact glyph_Trim.mono _ _)
      | (with_reducible exact wharflaw01_live.mono _)
      | (with_reducible exact LeO.refl _)
      | (with_reducible exact LeO.none _)
      | (with_reducible refine LeO.ite ?_ ?_)
      | (with_reducible refine LeO.bind ?_ (fun _ => ?_))
      | exact ih0 _ _ _
      | exact ih1 _ _ _ _
      | exact glyph_Check.mono _ _
      | exact glyph_Head.mono _ _ _
      | exact glyph_Trim.mono _ _
      | exact wharflaw01_live.mono _
      | exact LeO.none _
      | refine LeO.ite ?_ ?_
      | refine LeO.bind ?_ (fun _ => ?_)
theorem wharflaw01_GlyphCuts.mono : ∀ a0 a1 k, LeO (wharflaw01_GlyphCuts.f k a0 a1) (wharflaw01_GlyphCuts.f (k + 1) a0 a1) := by
  intro a0 a1 k
  obtain ⟨ih0, ih1⟩ := wharflaw01_GlyphCuts.mono_l k
  unfold wharflaw01_GlyphCuts.f
  repeat' first
      | (with_reducible exact ih0 _ _ _)
      | (with_reducible exact ih1 _ _ _ _)
      | (with_reducible exact glyph_Check.mono _ _)
      | (with_reducible exact glyph_Head.mono _ _ _)
      | (with_reducible exact glyph_Trim.mono _ _)
      | (with_reducible exact wharflaw01_live.mono _)
      | (with_reducible exact LeO.refl _)
      | (with_reducible exact LeO.none _)
      | (with_reducible refine LeO.ite ?_ ?_)
      | (with_reducible refine LeO.bind ?_ (fun _ => ?_))
      | exact ih0 _ _ _
      | exact ih1 _ _ _ _
      | exact glyph_Check.mono _ _
      | exact glyph_Head.mono _ _ _
      | exact glyph_Trim.mono _ _
      | exact wharflaw01_live.mono _
      | exact LeO.none _
      | refine LeO.ite ?_ ?_
      | refine LeO.bind ?_ (fun _ => ?_)
set_option maxHeartbeats 8000000 in
set_option maxRecDepth 100000 in
theorem wharflaw01_GlyphCuts.calls (k : Nat) (a0 : ByteArray) (a1 : Int) (r : Bool) (w : World) (h : wharflaw01_GlyphCuts.f k a0 a1 = some r) :
    Calls Try.prog 11 #[.string a0, .int .i64 a1] w fun e w' => e = .returned (.bool r) ∧ Below w.heap.size w w' := by
  have HB := Aside0.mk (Below.refl w.heap.size w)
  have H : (if (a0.size : Int) > 5000 then (wharflaw01_GlyphCuts.j0 k a0 a1 true) else ((glyph_Check.f k a0).bind fun t240 => ((wharflaw01_num.f t240).bind fun t241 => (wharflaw01_GlyphCuts.j0 k a0 a1 (t241 != 0))))) = some r := h
  clear h
  have HC3 := Aside0.mk H
  clear H
  go_enter Try.func11, Try.ntmps11
  go_upto_region 1 with (fail)
  go_cut [15] (fun v15 wc => ∃ (kq : Nat) (x15_2 : Bool), v15 = .bool x15_2 ∧ Aside0 (wharflaw01_GlyphCuts.j0 kq a0 a1 x15_2 = some r) ∧ Aside0 (kq ≤ k) ∧ Aside0 (Below w.heap.size w wc))
  case first =>
    have H := HC3.out
    clear HC3
    by_cases c4 : (a0.size : Int) > 5000
    · rw [if_pos c4] at H
      have c4b0 : decide (5000 < (a0.size : Int)) = true := decide_eq_true c4
      have c4b1 : decide (5000 < a0.size) = true := decide_eq_true (by omega)
      clear c4
      (first | rw [c4b0] | (simp only [i64_w, i32_w]; rw [c4b0]) | skip)
      have H' := Aside0.mk H
      clear H
      go_wp2
      go_meet
      case rel => exact ⟨_, (true), (by first | rfl | (simp; done) | (simp [*]; done)), H', ⟨by first | omega | exact Nat.le_refl _⟩, ⟨by repeat (first | (with_reducible first | exact HB.out | apply below_alloc | apply pw_below_drewN | apply below_drew1) | exact HB.out)⟩⟩
    · rw [if_neg c4] at H
      have c4b0 : decide (5000 < (a0.size : Int)) = false := decide_eq_false c4
      have c4b1 : decide (5000 < a0.size) = false := decide_eq_false (by omega)
      clear c4
      (first | rw [c4b0] | (simp only [i64_w, i32_w]; rw [c4b0]) | skip)
      replace H := Option.bind_eq_some_iff.mp H
      obtain ⟨t240, A50, H⟩ := H
      replace H : ((wharflaw01_num.f t240).bind fun t241 => (wharflaw01_GlyphCuts.j0 k a0 a1 (t241 != 0))) = some r := H
      have A5 := Aside0.mk A50
      clear A50
      replace H := Option.bind_eq_some_iff.mp H
      obtain ⟨t241, A60, H⟩ := H
      replace H : (wharflaw01_GlyphCuts.j0 k a0 a1 (t241 != 0)) = some r := H
      have A6 := Aside0.mk A60
      clear A60
      have H' := Aside0.mk H
      clear H
      go_wp2_with (first | (go_at_call 20; (with_reducible refine (glyph_Check.calls k a0 t240 _ A5.out).mono ?_); rintro e w7 ⟨rfl, hb⟩; have n0_ := Aside0.mk (below_step (by repeat (first | (with_reducible first | exact HB.out | apply below_alloc | apply pw_below_drewN | apply below_drew1) | exact HB.out)) hb); clear HB; have HB := n0_; clear n0_; (try clear hb); (try clear hb2); (try clear hk); (try clear hi)) | (go_at_call 17; (with_reducible refine (wharflaw01_num.calls t240 t241 _ A6.out).mono ?_); rintro e w' ⟨rfl, ⟨nd, rfl⟩⟩))
      go_meet
      case rel => exact ⟨_, ((t241 != 0)), (by first | rfl | (simp; done) | (simp [*]; done)), H', ⟨by first | omega | exact Nat.le_refl _⟩, ⟨by repeat (first | (with_reducible first | exact HB.out | apply below_alloc | apply pw_below_drewN | apply below_drew1) | exact HB.out)⟩⟩
  case rest =>
    clear HC3
    try clear c1
    try clear p2
    try clear c4
    try clear c4b0
    try clear c4b1
    obtain ⟨kq, x15_2, rfl, HA, HJ2, HB⟩ := hcut
    cases kq with
    | zero => exact absurd HA.out (by simp [wharflaw01_GlyphCuts.j0])
    | succ kj2 =>
      have H := HA.out
      clear HA
      simp only [wharflaw01_GlyphCuts.j0] at H
      by_cases c8 : x15_2 = true
      · subst c8
        have H1 : ((wharflaw01_live.f kj2).bind fun t242 => (some t242)) = some r := by rw [if_pos rfl] at H; exact H
        clear H
        have H := H1
        clear H1
        replace H := Option.bind_eq_some_iff.mp H
        obtain ⟨t242, A90, H⟩ := H
        replace H : (some t242) = some r := H
        have A9 := Aside0.mk A90
        clear A90
        obtain rfl := Option.some.inj H
        go_wp2_with (first | ((with_reducible refine gate_callee (f := 12) rfl ?_); refine goesL_ (some 16) rfl rfl Try.func12 (by kernel_rfl) rfl #[] rfl (by (try simp only [List.map_toArray, List.map_cons, List.map_nil]); first | done | rfl | (simp only [List.length_drop, List.length_take]; rfl)) ?_; (with_reducible refine (wharflaw01_live.calls kj2  t242 _ A9.out).mono ?_); rintro e w10 ⟨rfl, hb⟩; refine ⟨_, rfl, ?_⟩; have n0_ := Aside0.mk (below_step (by repeat (first | (with_reducible first | exact HB.out | apply below_alloc | apply pw_below_drewN | apply below_drew1) | exact HB.out)) hb); clear HB; have HB := n0_; clear n0_; (try clear hb); (try clear hb2); (try clear hk); (try clear hi)))
        go_ret
        exact ⟨by first | rfl | (simp [errW_none, errW_some] <;> rfl) | (simp [*, errW_none, errW_some] <;> rfl), by repeat (first | (with_reducible first | exact HB.out | apply below_alloc | apply pw_below_drewN | apply below_drew1) | exact HB.out)⟩
      · replace c8 := Bool.eq_false_iff.mpr c8
        subst c8
        have H1 : ((glyph_Head.f kj2 a0 a1).bind fun t243 => ((glyph_Trim.f kj2 a0).bind fun t244 => (if (t243.size : Int) > (a0.size : Int) then (wharflaw01_GlyphCuts.j1 kj2 a0 t243 t244 true) else (wharflaw01_GlyphCuts.j1 kj2 a0 t243 t244 (decide ((t244.size : Int) > (a0.size : Int))))))) = some r := by rw [if_neg (show ¬ (false = true) by decide)] at H; exact H
        clear H
        have H := H1
        clear H1
        replace H := Option.bind_eq_some_iff.mp H
        obtain ⟨t243, A110, H⟩ := H
        replace H : ((glyph_Trim.f kj2 a0).bind fun t244 => (if (t243.size : Int) > (a0.size : Int) then (wharflaw01_GlyphCuts.j1 kj2 a0 t243 t244 true) else (wharflaw01_GlyphCuts.j1 kj2 a0 t243 t244 (decide ((t244.size : Int) > (a0.size : Int)))))) = some r := H
        have A11 := Aside0.mk A110
        clear A110
        replace H := Option.bind_eq_some_iff.mp H
        obtain ⟨t244, A120, H⟩ := H
        replace H : (if (t243.size : Int) > (a0.size : Int) then (wharflaw01_GlyphCuts.j1 kj2 a0 t243 t244 true) else (wharflaw01_GlyphCuts.j1 kj2 a0 t243 t244 (decide ((t244.size : Int) > (a0.size : Int))))) = some r := H
        have A12 := Aside0.mk A120
        clear A120
        have HC13 := Aside0.mk H
        clear H
        go_upto_region 5 with (first | ((with_reducible refine gate_callee (f := 25) rfl ?_); refine goesL_ (some 19) rfl rfl Try.func25 (by kernel_rfl) rfl #[.string a0, .int .i64 a1] rfl (by (try simp only [List.map_toArray, List.map_cons, List.map_nil]); first | done | rfl | (simp only [List.length_drop, List.length_take]; rfl)) ?_; (with_reducible refine (glyph_Head.calls kj2 a0 a1 t243 _ A11.out).mono ?_); rintro e w14 ⟨rfl, hb⟩; refine ⟨_, rfl, ?_⟩; have n0_ := Aside0.mk (below_step (by repeat (first | (with_reducible first | exact HB.out | apply below_alloc | apply pw_below_drewN | apply below_drew1) | exact HB.out)) hb); clear HB; have HB := n0_; clear n0_; (try clear hb); (try clear hb2); (try clear hk); (try clear hi)) | ((with_reducible refine gate_callee (f := 23) rfl ?_); refine goesL_ (some 21) rfl rfl Try.func23 (by kernel_rfl) rfl #[.string a0] rfl (by (try simp only [List.map_toArray, List.map_cons, List.map_nil]); first | done | rfl | (simp only [List.length_drop, List.length_take]; rfl)) ?_; (with_reducible refine (glyph_Trim.calls kj2 a0 t244 _ A12.out).mono ?_); rintro e w' ⟨rfl, ⟨nd, rfl⟩⟩; refine ⟨_, rfl, ?_⟩))
        (try simp only [Act.put, List.setIfInBounds_toArray, List.set_cons_zero, List.set_cons_succ])
        go_cut [33] (fun v33 wc => ∃ (kq : Nat) (x33_12 : Bool), v33 = .bool x33_12 ∧ Aside0 (wharflaw01_GlyphCuts.j1 kq a0 t243 t244 x33_12 = some r) ∧ Aside0 (kq ≤ kj2) ∧ Aside0 (Below w.heap.size w wc))
        case first =>
          have H := HC13.out
          clear HC13
          by_cases c15 : (t243.size : Int) > (a0.size : Int)
          · rw [if_pos c15] at H
            have c15b0 : decide ((a0.size : Int) < (t243.size : Int)) = true := decide_eq_true c15
            have c15b1 : decide (a0.size < t243.size) = true := decide_eq_true (Int.ofNat_lt.mp c15)
            clear c15
            (first | rw [c15b0] | (simp only [i64_w, i32_w]; rw [c15b0]) | skip)
            have H' := Aside0.mk H
            clear H
            go_wp2
            go_meet
            case rel => exact ⟨_, (true), (by first | rfl | (simp; done) | (simp [*]; done)), H', ⟨by have := HJ2.out; first | omega | exact Nat.le_refl _⟩, ⟨by repeat (first | (with_reducible first | exact HB.out | apply below_alloc | apply pw_below_drewN | apply below_drew1) | exact HB.out)⟩⟩
          · rw [if_neg c15] at H
            have c15b0 : decide ((a0.size : Int) < (t243.size : Int)) = false := decide_eq_false c15
            have c15b1 : decide (a0.size < t243.size) = false := decide_eq_false (fun h => c15 (Int.ofNat_lt.mpr h))
            clear c15
            (first | rw [c15b0] | (simp only [i64_w, i32_w]; rw [c15b0]) | skip)
            have H' := Aside0.mk H
            clear H
            go_wp2
            go_meet
            case rel => exact ⟨_, (decide ((t244.size : Int) > (a0.size : Int))), (by first | rfl | (simp; done) | (simp [*]; done)), H', ⟨by have := HJ2.out; first | omega | exact Nat.le_refl _⟩, ⟨by repeat (first | (with_reducible first | exact HB.out | apply below_alloc | apply pw_below_drewN | apply below_drew1) | exact HB.out)⟩⟩
        case rest =>
          clear HC13
          try clear c1
          try clear c2
          try clear p2
          try clear c4
          try clear c4b0
          try clear c4b1
          try clear c8
          try clear c11
          try clear c12
          try clear c15
          try clear c15b0
          try clear c15b1
          try clear p2
          obtain ⟨kq, x33_12, rfl, HA, HJ12, HB⟩ := hcut
          cases kq with
          | zero => exact absurd HA.out (by simp [wharflaw01_GlyphCuts.j1])
          | succ kj12 =>
            have H := HA.out
            clear HA
            simp only [wharflaw01_GlyphCuts.j1] at H
            by_cases c16 : x33_12 = true
            · subst c16
              have H1 : (some false) = some r := by rw [if_pos rfl] at H; exact H
              clear H
              have H := H1
              clear H1
              obtain rfl := Option.some.inj H
              go_wp2
              go_ret
              exact ⟨by first | rfl | (simp [errW_none, errW_some] <;> rfl) | (simp [*, errW_none, errW_some] <;> rfl), by repeat (first | (with_reducible first | exact HB.out | apply below_alloc | apply pw_below_drewN | apply below_drew1) | exact HB.out)⟩
            · replace c16 := Bool.eq_false_iff.mpr c16
              subst c16
              have H1 : (if 0 ≤ (t243.size : Int) then (if (t243.size : Int) ≤ (a0.size : Int) then ((glyph_Check.f kj12 (a0.extract t243.size a0.size)).bind fun t245 => ((wharflaw01_num.f t245).bind fun t246 => (if t246 = 0 then ((glyph_Check.f kj12 t244).bind fun t247 => ((wharflaw01_num.f t247).bind fun t248 => (if t248 = 0 then ((glyph_Trim.f kj12 t244).bind fun t249 => (if t249.toList = t244.toList then (if 1 + a0.size ≤ 9223372036854775807 then (if ((⟨#[32]⟩ : ByteArray) ++ a0).size + 1 ≤ 9223372036854775807 then ((glyph_Trim.f kj12 (((⟨#[32]⟩ : ByteArray) ++ a0) ++ (⟨#[10]⟩ : ByteArray))).bind fun t250 => (if t250.toList = t244.toList then ((glyph_Fold.f a0).bind fun t251 => ((glyph_Check.f kj12 t251).bind fun t252 => ((wharflaw01_num.f t252).bind fun t253 => (if t253 = 0 then ((wharflaw01_live.f kj12).bind fun t254 => (some t254)) else (some false))))) else (some false))) else (none)) else (none)) else (some false))) else (some false)))) else (some false)))) else (none)) else (none)) = some r := by rw [if_neg (show ¬ (false = true) by decide)] at H; exact H
              clear H
              have H := H1
              clear H1
              by_cases c17 : 0 ≤ (t243.size : Int)
              · rw [if_pos c17] at H
                have c17b0 := eq_true c17
                have c17b1 : decide (0 ≤ (t243.size : Int)) = true := decide_eq_true c17
                clear c17
                by_cases c18 : (t243.size : Int) ≤ (a0.size : Int)
                · rw [if_pos c18] at H
                  have c18b0 := eq_true c18
                  have c18b1 : decide ((t243.size : Int) ≤ (a0.size : Int)) = true := decide_eq_true c18
                  clear c18
                  replace H := Option.bind_eq_some_iff.mp H
                  obtain ⟨t245, A190, H⟩ := H
                  replace H : ((wharflaw01_num.f t245).bind fun t246 => (if t246 = 0 then ((glyph_Check.f kj12 t244).bind fun t247 => ((wharflaw01_num.f t247).bind fun t248 => (if t248 = 0 then ((glyph_Trim.f kj12 t244).bind fun t249 => (if t249.toList = t244.toList then (if 1 + a0.size ≤ 9223372036854775807 then (if ((⟨#[32]⟩ : ByteArray) ++ a0).size + 1 ≤ 9223372036854775807 then ((glyph_Trim.f kj12 (((⟨#[32]⟩ : ByteArray) ++ a0) ++ (⟨#[10]⟩ : ByteArray))).bind fun t250 => (if t250.toList = t244.toList then ((glyph_Fold.f a0).bind fun t251 => ((glyph_Check.f kj12 t251).bind fun t252 => ((wharflaw01_num.f t252).bind fun t253 => (if t253 = 0 then ((wharflaw01_live.f kj12).bind fun t254 => (some t254)) else (some false))))) else (some false))) else (none)) else (none)) else (some false))) else (some false)))) else (some false))) = some r := H
                  have A19 := Aside0.mk A190
                  clear A190
                  replace H := Option.bind_eq_some_iff.mp H
                  obtain ⟨t246, A200, H⟩ := H
                  replace H : (if t246 = 0 then ((glyph_Check.f kj12 t244).bind fun t247 => ((wharflaw01_num.f t247).bind fun t248 => (if t248 = 0 then ((glyph_Trim.f kj12 t244).bind fun t249 => (if t249.toList = t244.toList then (if 1 + a0.size ≤ 9223372036854775807 then (if ((⟨#[32]⟩ : ByteArray) ++ a0).size + 1 ≤ 9223372036854775807 then ((glyph_Trim.f kj12 (((⟨#[32]⟩ : ByteArray) ++ a0) ++ (⟨#[10]⟩ : ByteArray))).bind fun t250 => (if t250.toList = t244.toList then ((glyph_Fold.f a0).bind fun t251 => ((glyph_Check.f kj12 t251).bind fun t252 => ((wharflaw01_num.f t252).bind fun t253 => (if t253 = 0 then ((wharflaw01_live.f kj12).bind fun t254 => (some t254)) else (some false))))) else (some false))) else (none)) else (none)) else (some false))) else (some false)))) else (some false)) = some r := H
                  have A20 := Aside0.mk A200
                  clear A200
                  by_cases c21 : t246 = 0
                  · rw [if_pos c21] at H
                    have c21b0 : (t246 == 0) = true := beq_iff_eq.mpr c21
                    have c21b1 : (t246 != 0) = false := bne_eq_false_iff_eq.mpr c21
                    clear c21
                    replace H := Option.bind_eq_some_iff.mp H
                    obtain ⟨t247, A220, H⟩ := H
                    replace H : ((wharflaw01_num.f t247).bind fun t248 => (if t248 = 0 then ((glyph_Trim.f kj12 t244).bind fun t249 => (if t249.toList = t244.toList then (if 1 + a0.size ≤ 9223372036854775807 then (if ((⟨#[32]⟩ : ByteArray) ++ a0).size + 1 ≤ 9223372036854775807 then ((glyph_Trim.f kj12 (((⟨#[32]⟩ : ByteArray) ++ a0) ++ (⟨#[10]⟩ : ByteArray))).bind fun t250 => (if t250.toList = t244.toList then ((glyph_Fold.f a0).bind fun t251 => ((glyph_Check.f kj12 t251).bind fun t252 => ((wharflaw01_num.f t252).bind fun t253 => (if t253 = 0 then ((wharflaw01_live.f kj12).bind fun t254 => (some t254)) else (some false))))) else (some false))) else (none)) else (none)) else (some false))) else (some false))) = some r := H
                    have A22 := Aside0.mk A220
                    clear A220
                    replace H := Option.bind_eq_some_iff.mp H
                    obtain ⟨t248, A230, H⟩ := H
                    replace H : (if t248 = 0 then ((glyph_Trim.f kj12 t244).bind fun t249 => (if t249.toList = t244.toList then (if 1 + a0.size ≤ 9223372036854775807 then (if ((⟨#[32]⟩ : ByteArray) ++ a0).size + 1 ≤ 9223372036854775807 then ((glyph_Trim.f kj12 (((⟨#[32]⟩ : ByteArray) ++ a0) ++ (⟨#[10]⟩ : ByteArray))).bind fun t250 => (if t250.toList = t244.toList then ((glyph_Fold.f a0).bind fun t251 => ((glyph_Check.f kj12 t251).bind fun t252 => ((wharflaw01_num.f t252).bind fun t253 => (if t253 = 0 then ((wharflaw01_live.f kj12).bind fun t254 => (some t254)) else (some false))))) else (some false))) else (none)) else (none)) else (some false))) else (some false)) = some r := H
                    have A23 := Aside0.mk A230
                    clear A230
                    by_cases c24 : t248 = 0
                    · rw [if_pos c24] at H
                      have c24b0 : (t248 == 0) = true := beq_iff_eq.mpr c24
                      have c24b1 : (t248 != 0) = false := bne_eq_false_iff_eq.mpr c24
                      clear c24
                      replace H := Option.bind_eq_some_iff.mp H
                      obtain ⟨t249, A250, H⟩ := H
                      replace H : (if t249.toList = t244.toList then (if 1 + a0.size ≤ 9223372036854775807 then (if ((⟨#[32]⟩ : ByteArray) ++ a0).size + 1 ≤ 9223372036854775807 then ((glyph_Trim.f kj12 (((⟨#[32]⟩ : ByteArray) ++ a0) ++ (⟨#[10]⟩ : ByteArray))).bind fun t250 => (if t250.toList = t244.toList then ((glyph_Fold.f a0).bind fun t251 => ((glyph_Check.f kj12 t251).bind fun t252 => ((wharflaw01_num.f t252).bind fun t253 => (if t253 = 0 then ((wharflaw01_live.f kj12).bind fun t254 => (some t254)) else (some false))))) else (some false))) else (none)) else (none)) else (some false)) = some r := H
                      have A25 := Aside0.mk A250
                      clear A250
                      by_cases c26 : t249.toList = t244.toList
                      · rw [if_pos c26] at H
                        have c26b0 : (t249.toList == t244.toList) = true := beq_iff_eq.mpr c26
                        have c26b1 : (t249.toList != t244.toList) = false := bne_eq_false_iff_eq.mpr c26
                        clear c26
                        by_cases c27 : 1 + a0.size ≤ 9223372036854775807
                        · rw [if_pos c27] at H
                          have c27b0 := eq_true c27
                          have c27b1 : decide (1 + a0.size ≤ 9223372036854775807) = true := decide_eq_true c27
                          try have c27b2 : (9223372036854775807 < 1 + a0.size) = False := eq_false (Nat.not_lt.2 c27)
                          by_cases c28 : ((⟨#[32]⟩ : ByteArray) ++ a0).size + 1 ≤ 9223372036854775807
                          · rw [if_pos c28] at H
                            have c28b0 := eq_true c28
                            have c28b1 : decide (((⟨#[32]⟩ : ByteArray) ++ a0).size + 1 ≤ 9223372036854775807) = true := decide_eq_true c28
                            try have c28b2 : (9223372036854775807 < ((⟨#[32]⟩ : ByteArray) ++ a0).size + 1) = False := eq_false (Nat.not_lt.2 c28)
                            (try have c28b3 : (9223372036854775807 < 1 + a0.size + 1) = False := eq_false (Nat.not_lt.2 (by first | exact c28 | (have h_ := c28; simp only [ByteArray.size_append] at h_; exact h_))))
                            (try have c28b4 : (1 + a0.size + 1 ≤ 9223372036854775807) = True := eq_true (by first | exact c28 | (have h_ := c28; simp only [ByteArray.size_append] at h_; exact h_)))
                            replace H := Option.bind_eq_some_iff.mp H
                            obtain ⟨t250, A290, H⟩ := H
                            replace H : (if t250.toList = t244.toList then ((glyph_Fold.f a0).bind fun t251 => ((glyph_Check.f kj12 t251).bind fun t252 => ((wharflaw01_num.f t252).bind fun t253 => (if t253 = 0 then ((wharflaw01_live.f kj12).bind fun t254 => (some t254)) else (some false))))) else (some false)) = some r := H
                            have A29 := Aside0.mk A290
                            clear A290
                            by_cases c30 : t250.toList = t244.toList
                            · rw [if_pos c30] at H
                              have c30b0 : (t250.toList == t244.toList) = true := beq_iff_eq.mpr c30
                              have c30b1 : (t250.toList != t244.toList) = false := bne_eq_false_iff_eq.mpr c30
                              clear c30
                              replace H := Option.bind_eq_some_iff.mp H
                              obtain ⟨t251, A310, H⟩ := H
                              replace H : ((glyph_Check.f kj12 t251).bind fun t252 => ((wharflaw01_num.f t252).bind fun t253 => (if t253 = 0 then ((wharflaw01_live.f kj12).bind fun t254 => (some t254)) else (some false)))) = some r := H
                              have A31 := Aside0.mk A310
                              clear A310
                              replace H := Option.bind_eq_some_iff.mp H
                              obtain ⟨t252, A320, H⟩ := H
                              replace H : ((wharflaw01_num.f t252).bind fun t253 => (if t253 = 0 then ((wharflaw01_live.f kj12).bind fun t254 => (some t254)) else (some false))) = some r := H
                              have A32 := Aside0.mk A320
                              clear A320
                              replace H := Option.bind_eq_some_iff.mp H
                              obtain ⟨t253, A330, H⟩ := H
                              replace H : (if t253 = 0 then ((wharflaw01_live.f kj12).bind fun t254 => (some t254)) else (some false)) = some r := H
                              have A33 := Aside0.mk A330
                              clear A330
                              by_cases c34 : t253 = 0
                              · rw [if_pos c34] at H
                                have c34b0 : (t253 == 0) = true := beq_iff_eq.mpr c34
                                have c34b1 : (t253 != 0) = false := bne_eq_false_iff_eq.mpr c34
                                clear c34
                                replace H := Option.bind_eq_some_iff.mp H
                                obtain ⟨t254, A350, H⟩ := H
                                replace H : (some t254) = some r := H
                                have A35 := Aside0.mk A350
                                clear A350
                                obtain rfl := Option.some.inj H
                                go_wp2_with (first | ((with_reducible refine gate_callee (f := 20) rfl ?_); refine goesL_ (some 38) rfl rfl Try.func20 (by kernel_rfl) rfl #[.string (a0.extract t243.size a0.size)] rfl (by (try simp only [List.map_toArray, List.map_cons, List.map_nil]); first | done | rfl | (simp only [List.length_drop, List.length_take]; rfl)) ?_; (with_reducible refine (glyph_Check.calls kj12 (a0.extract t243.size a0.size) t245 _ A19.out).mono ?_); rintro e w36 ⟨rfl, hb⟩; refine ⟨_, rfl, ?_⟩; have n0_ := Aside0.mk (below_step (by repeat (first | (with_reducible first | exact HB.out | apply below_alloc | apply pw_below_drewN | apply below_drew1) | exact HB.out)) hb); clear HB; have HB := n0_; clear n0_; (try clear hb); (try clear hb2); (try clear hk); (try clear hi)) | ((with_reducible refine gate_callee (f := 17) rfl ?_); refine goesL_ (some 39) rfl rfl Try.func17 (by kernel_rfl) rfl #[.int .i64 t245] rfl (by (try simp only [List.map_toArray, List.map_cons, List.map_nil]); first | done | rfl | (simp only [List.length_drop, List.length_take]; rfl)) ?_; (with_reducible refine (wharflaw01_num.calls t245 t246 _ A20.out).mono ?_); rintro e w' ⟨rfl, ⟨nd, rfl⟩⟩; refine ⟨_, rfl, ?_⟩) | (go_at_call 20; (with_reducible refine (glyph_Check.calls kj12 t244 t247 _ A22.out).mono ?_); rintro e w37 ⟨rfl, hb⟩; have n0_ := Aside0.mk (below_step (by repeat (first | (with_reducible first | exact HB.out | apply below_alloc | apply pw_below_drewN | apply below_drew1) | exact HB.out)) hb); clear HB; have HB := n0_; clear n0_; (try clear hb); (try clear hb2); (try clear hk); (try clear hi)) | (go_at_call 17; (with_reducible refine (wharflaw01_num.calls t247 t248 _ A23.out).mono ?_); rintro e w' ⟨rfl, ⟨nd, rfl⟩⟩) | (go_at_call 23; (with_reducible refine (glyph_Trim.calls kj12 t244 t249 _ A25.out).mono ?_); rintro e w' ⟨rfl, ⟨nd, rfl⟩⟩) | (go_at_call 23; (with_reducible refine (glyph_Trim.calls kj12 (((⟨#[32]⟩ : ByteArray) ++ a0) ++ (⟨#[10]⟩ : ByteArray)) t250 _ A29.out).mono ?_); rintro e w' ⟨rfl, ⟨nd, rfl⟩⟩) | (go_at_call 21; (with_reducible refine (glyph_Fold.calls a0 t251 _ A31.out).mono ?_); rintro e w38 ⟨rfl, hb⟩; have n0_ := Aside0.mk (below_step (by repeat (first | (with_reducible first | exact HB.out | apply below_alloc | apply pw_below_drewN | apply below_drew1) | exact HB.out)) hb); clear HB; have HB := n0_; clear n0_; (try clear hb); (try clear hb2); (try clear hk); (try clear hi)) | (go_at_call 20; (with_reducible refine (glyph_Check.calls kj12 t251 t252 _ A32.out).mono ?_); rintro e w39 ⟨rfl, hb⟩; have n0_ := Aside0.mk (below_step (by repeat (first | (with_reducible first | exact HB.out | apply below_alloc | apply pw_below_drewN | apply below_drew1) | exact HB.out)) hb); clear HB; have HB := n0_; clear n0_; (try clear hb); (try clear hb2); (try clear hk); (try clear hi)) | (go_at_call 17; (with_reducible refine (wharflaw01_num.calls t252 t253 _ A33.out).mono ?_); rintro e w' ⟨rfl, ⟨nd, rfl⟩⟩) | (go_at_call 12; (with_reducible refine (wharflaw01_live.calls kj12  t254 _ A35.out).mono ?_); rintro e w40 ⟨rfl, hb⟩; have n0_ := Aside0.mk (below_step (by repeat (first | (with_reducible first | exact HB.out | apply below_alloc | apply pw_below_drewN | apply below_drew1) | exact HB.out)) hb); clear HB; have HB := n0_; clear n0_; (try clear hb); (try clear hb2); (try clear hk); (try clear hi)))
                                go_ret
                                exact ⟨by first | rfl | (simp [errW_none, errW_some] <;> rfl) | (simp [*, errW_none, errW_some] <;> rfl), by repeat (first | (with_reducible first | exact HB.out | apply below_alloc | apply pw_below_drewN | apply below_drew1) | exact HB.out)⟩
                              · rw [if_neg c34] at H
                                have c34b0 : (t253 == 0) = false := beq_eq_false_iff_ne.mpr c34
                                have c34b1 : (t253 != 0) = true := bne_iff_ne.mpr c34
                                obtain rfl := Option.some.inj H
                                go_wp2_with (first | ((with_reducible refine gate_callee (f := 20) rfl ?_); refine goesL_ (some 38) rfl rfl Try.func20 (by kernel_rfl) rfl #[.string (a0.extract t243.size a0.size)] rfl (by (try simp only [List.map_toArray, List.map_cons, List.map_nil]); first | done | rfl | (simp only [List.length_drop, List.length_take]; rfl)) ?_; (with_reducible refine (glyph_Check.calls kj12 (a0.extract t243.size a0.size) t245 _ A19.out).mono ?_); rintro e w41 ⟨rfl, hb⟩; refine ⟨_, rfl, ?_⟩; have n0_ := Aside0.mk (below_step (by repeat (first | (with_reducible first | exact HB.out | apply below_alloc | apply pw_below_drewN | apply below_drew1) | exact HB.out)) hb); clear HB; have HB := n0_; clear n0_; (try clear hb); (try clear hb2); (try clear hk); (try clear hi)) | ((with_reducible refine gate_callee (f := 17) rfl ?_); refine goesL_ (some 39) rfl rfl Try.func17 (by kernel_rfl) rfl #[.int .i64 t245] rfl (by (try simp only [List.map_toArray, List.map_cons, List.map_nil]); first | done | rfl | (simp only [List.length_drop, List.length_take]; rfl)) ?_; (with_reducible refine (wharflaw01_num.calls t245 t246 _ A20.out).mono ?_); rintro e w' ⟨rfl, ⟨nd, rfl⟩⟩; refine ⟨_, rfl, ?_⟩) | (go_at_call 20; (with_reducible refine (glyph_Check.calls kj12 t244 t247 _ A22.out).mono ?_); rintro e w42 ⟨rfl, hb⟩; have n0_ := Aside0.mk (below_step (by repeat (first | (with_reducible first | exact HB.out | apply below_alloc | apply pw_below_drewN | apply below_drew1) | exact HB.out)) hb); clear HB; have HB := n0_; clear n0_; (try clear hb); (try clear hb2); (try clear hk); (try clear hi)) | (go_at_call 17; (with_reducible refine (wharflaw01_num.calls t247 t248 _ A23.out).mono ?_); rintro e w' ⟨rfl, ⟨nd, rfl⟩⟩) | (go_at_call 23; (with_reducible refine (glyph_Trim.calls kj12 t244 t249 _ A25.out).mono ?_); rintro e w' ⟨rfl, ⟨nd, rfl⟩⟩) | (go_at_call 23; (with_reducible refine (glyph_Trim.calls kj12 (((⟨#[32]⟩ : ByteArray) ++ a0) ++ (⟨#[10]⟩ : ByteArray)) t250 _ A29.out).mono ?_); rintro e w' ⟨rfl, ⟨nd, rfl⟩⟩) | (go_at_call 21; (with_reducible refine (glyph_Fold.calls a0 t251 _ A31.out).mono ?_); rintro e w43 ⟨rfl, hb⟩; have n0_ := Aside0.mk (below_step (by repeat (first | (with_reducible first | exact HB.out | apply below_alloc | apply pw_below_drewN | apply below_drew1) | exact HB.out)) hb); clear HB; have HB := n0_; clear n0_; (try clear hb); (try clear hb2); (try clear hk); (try clear hi)) | (go_at_call 20; (with_reducible refine (glyph_Check.calls kj12 t251 t252 _ A32.out).mono ?_); rintro e w44 ⟨rfl, hb⟩; have n0_ := Aside0.mk (below_step (by repeat (first | (with_reducible first | exact HB.out | apply below_alloc | apply pw_below_drewN | apply below_drew1) | exact HB.out)) hb); clear HB; have HB := n0_; clear n0_; (try clear hb); (try clear hb2); (try clear hk); (try clear hi)) | (go_at_call 17; (with_reducible refine (wharflaw01_num.calls t252 t253 _ A33.out).mono ?_); rintro e w' ⟨rfl, ⟨nd, rfl⟩⟩))
                                go_ret
                                exact ⟨by first | rfl | (simp [errW_none, errW_some] <;> rfl) | (simp [*, errW_none, errW_some] <;> rfl), by repeat (first | (with_reducible first | exact HB.out | apply below_alloc | apply pw_below_drewN | apply below_drew1) | exact HB.out)⟩
                            · rw [if_neg c30] at H
                              have c30b0 : (t250.toList == t244.toList) = false := beq_eq_false_iff_ne.mpr c30
                              have c30b1 : (t250.toList != t244.toList) = true := bne_iff_ne.mpr c30
                              obtain rfl := Option.some.inj H
                              go_wp2_with (first | ((with_reducible refine gate_callee (f := 20) rfl ?_); refine goesL_ (some 38) rfl rfl Try.func20 (by kernel_rfl) rfl #[.string (a0.extract t243.size a0.size)] rfl (by (try simp only [List.map_toArray, List.map_cons, List.map_nil]); first | done | rfl | (simp only [List.length_drop, List.length_take]; rfl)) ?_; (with_reducible refine (glyph_Check.calls kj12 (a0.extract t243.size a0.size) t245 _ A19.out).mono ?_); rintro e w45 ⟨rfl, hb⟩; refine ⟨_, rfl, ?_⟩; have n0_ := Aside0.mk (below_step (by repeat (first | (with_reducible first | exact HB.out | apply below_alloc | apply pw_below_drewN | apply below_drew1) | exact HB.out)) hb); clear HB; have HB := n0_; clear n0_; (try clear hb); (try clear hb2); (try clear hk); (try clear hi)) | ((with_reducible refine gate_callee (f := 17) rfl ?_); refine goesL_ (some 39) rfl rfl Try.func17 (by kernel_rfl) rfl #[.int .i64 t245] rfl (by (try simp only [List.map_toArray, List.map_cons, List.map_nil]); first | done | rfl | (simp only [List.length_drop, List.length_take]; rfl)) ?_; (with_reducible refine (wharflaw01_num.calls t245 t246 _ A20.out).mono ?_); rintro e w' ⟨rfl, ⟨nd, rfl⟩⟩; refine ⟨_, rfl, ?_⟩) | (go_at_call 20; (with_reducible refine (glyph_Check.calls kj12 t244 t247 _ A22.out).mono ?_); rintro e w46 ⟨rfl, hb⟩; have n0_ := Aside0.mk (below_step (by repeat (first | (with_reducible first | exact HB.out | apply below_alloc | apply pw_below_drewN | apply below_drew1) | exact HB.out)) hb); clear HB; have HB := n0_; clear n0_; (try clear hb); (try clear hb2); (try clear hk); (try clear hi)) | (go_at_call 17; (with_reducible refine (wharflaw01_num.calls t247 t248 _ A23.out).mono ?_); rintro e w' ⟨rfl, ⟨nd, rfl⟩⟩) | (go_at_call 23; (with_reducible refine (glyph_Trim.calls kj12 t244 t249 _ A25.out).mono ?_); rintro e w' ⟨rfl, ⟨nd, rfl⟩⟩) | (go_at_call 23; (with_reducible refine (glyph_Trim.calls kj12 (((⟨#[32]⟩ : ByteArray) ++ a0) ++ (⟨#[10]⟩ : ByteArray)) t250 _ A29.out).mono ?_); rintro e w' ⟨rfl, ⟨nd, rfl⟩⟩))
                              go_ret
                              exact ⟨by first | rfl | (simp [errW_none, errW_some] <;> rfl) | (simp [*, errW_none, errW_some] <;> rfl), by repeat (first | (with_reducible first | exact HB.out | apply below_alloc | apply pw_below_drewN | apply below_drew1) | exact HB.out)⟩
                          · rw [if_neg c28] at H
                            exact absurd H (by simp)
                        · rw [if_neg c27] at H
                          exact absurd H (by simp)
                      · rw [if_neg c26] at H
                        have c26b0 : (t249.toList == t244.toList) = false := beq_eq_false_iff_ne.mpr c26
                        have c26b1 : (t249.toList != t244.toList) = true := bne_iff_ne.mpr c26
                        obtain rfl := Option.some.inj H
                        go_wp2_with (first | ((with_reducible refine gate_callee (f := 20) rfl ?_); refine goesL_ (some 38) rfl rfl Try.func20 (by kernel_rfl) rfl #[.string (a0.extract t243.size a0.size)] rfl (by (try simp only [List.map_toArray, List.map_cons, List.map_nil]); first | done | rfl | (simp only [List.length_drop, List.length_take]; rfl)) ?_; (with_reducible refine (glyph_Check.calls kj12 (a0.extract t243.size a0.size) t245 _ A19.out).mono ?_); rintro e w47 ⟨rfl, hb⟩; refine ⟨_, rfl, ?_⟩; have n0_ := Aside0.mk (below_step (by repeat (first | (with_reducible first | exact HB.out | apply below_alloc | apply pw_below_drewN | apply below_drew1) | exact HB.out)) hb); clear HB; have HB := n0_; clear n0_; (try clear hb); (try clear hb2); (try clear hk); (try clear hi)) | ((with_reducible refine gate_callee (f := 17) rfl ?_); refine goesL_ (some 39) rfl rfl Try.func17 (by kernel_rfl) rfl #[.int .i64 t245] rfl (by (try simp only [List.map_toArray, List.map_cons, List.map_nil]); first | done | rfl | (simp only [List.length_drop, List.length_take]; rfl)) ?_; (with_reducible refine (wharflaw01_num.calls t245 t246 _ A20.out).mono ?_); rintro e w' ⟨rfl, ⟨nd, rfl⟩⟩; refine ⟨_, rfl, ?_⟩) | (go_at_call 20; (with_reducible refine (glyph_Check.calls kj12 t244 t247 _ A22.out).mono ?_); rintro e w48 ⟨rfl, hb⟩; have n0_ := Aside0.mk (below_step (by repeat (first | (with_reducible first | exact HB.out | apply below_alloc | apply pw_below_drewN | apply below_drew1) | exact HB.out)) hb); clear HB; have HB := n0_; clear n0_; (try clear hb); (try clear hb2); (try clear hk); (try clear hi)) | (go_at_call 17; (with_reducible refine (wharflaw01_num.calls t247 t248 _ A23.out).mono ?_); rintro e w' ⟨rfl, ⟨nd, rfl⟩⟩) | (go_at_call 23; (with_reducible refine (glyph_Trim.calls kj12 t244 t249 _ A25.out).mono ?_); rintro e w' ⟨rfl, ⟨nd, rfl⟩⟩))
                        go_ret
                        exact ⟨by first | rfl | (simp [errW_none, errW_some] <;> rfl) | (simp [*, errW_none, errW_some] <;> rfl), by repeat (first | (with_reducible first | exact HB.out | apply below_alloc | apply pw_below_drewN | apply below_drew1) | exact HB.out)⟩
                    · rw [if_neg c24] at H
                      have c24b0 : (t248 == 0) = false := beq_eq_false_iff_ne.mpr c24
                      have c24b1 : (t248 != 0) = true := bne_iff_ne.mpr c24
                      obtain rfl := Option.some.inj H
                      go_wp2_with (first | ((with_reducible refine gate_callee (f := 20) rfl ?_); refine goesL_ (some 38) rfl rfl Try.func20 (by kernel_rfl) rfl #[.string (a0.extract t243.size a0.size)] rfl (by (try simp only [List.map_toArray, List.map_cons, List.map_nil]); first | done | rfl | (simp only [List.length_drop, List.length_take]; rfl)) ?_; (with_reducible refine (glyph_Check.calls kj12 (a0.extract t243.size a0.size) t245 _ A19.out).mono ?_); rintro e w49 ⟨rfl, hb⟩; refine ⟨_, rfl, ?_⟩; have n0_ := Aside0.mk (below_step (by repeat (first | (with_reducible first | exact HB.out | apply below_alloc | apply pw_below_drewN | apply below_drew1) | exact HB.out)) hb); clear HB; have HB := n0_; clear n0_; (try clear hb); (try clear hb2); (try clear hk); (try clear hi)) | ((with_reducible refine gate_callee (f := 17) rfl ?_); refine goesL_ (some 39) rfl rfl Try.func17 (by kernel_rfl) rfl #[.int .i64 t245] rfl (by (try simp only [List.map_toArray, List.map_cons, List.map_nil]); first | done | rfl | (simp only [List.length_drop, List.length_take]; rfl)) ?_; (with_reducible refine (wharflaw01_num.calls t245 t246 _ A20.out).mono ?_); rintro e w' ⟨rfl, ⟨nd, rfl⟩⟩; refine ⟨_, rfl, ?_⟩) | (go_at_call 20; (with_reducible refine (glyph_Check.calls kj12 t244 t247 _ A22.out).mono ?_); rintro e w50 ⟨rfl, hb⟩; have n0_ := Aside0.mk (below_step (by repeat (first | (with_reducible first | exact HB.out | apply below_alloc | apply pw_below_drewN | apply below_drew1) | exact HB.out)) hb); clear HB; have HB := n0_; clear n0_; (try clear hb); (try clear hb2); (try clear hk); (try clear hi)) | (go_at_call 17; (with_reducible refine (wharflaw01_num.calls t247 t248 _ A23.out).mono ?_); rintro e w' ⟨rfl, ⟨nd, rfl⟩⟩))
                      go_ret
                      exact ⟨by first | rfl | (simp [errW_none, errW_some] <;> rfl) | (simp [*, errW_none, errW_some] <;> rfl), by repeat (first | (with_reducible first | exact HB.out | apply below_alloc | apply pw_below_drewN | apply below_drew1) | exact HB.out)⟩
                  · rw [if_neg c21] at H
                    have c21b0 : (t246 == 0) = false := beq_eq_false_iff_ne.mpr c21
                    have c21b1 : (t246 != 0) = true := bne_iff_ne.mpr c21
                    obtain rfl := Option.some.inj H
                    go_wp2_with (first | ((with_reducible refine gate_callee (f := 20) rfl ?_); refine goesL_ (some 38) rfl rfl Try.func20 (by kernel_rfl) rfl #[.string (a0.extract t243.size a0.size)] rfl (by (try simp only [List.map_toArray, List.map_cons, List.map_nil]); first | done | rfl | (simp only [List.length_drop, List.length_take]; rfl)) ?_; (with_reducible refine (glyph_Check.calls kj12 (a0.extract t243.size a0.size) t245 _ A19.out).mono ?_); rintro e w51 ⟨rfl, hb⟩; refine ⟨_, rfl, ?_⟩; have n0_ := Aside0.mk (below_step (by repeat (first | (with_reducible first | exact HB.out | apply below_alloc | apply pw_below_drewN | apply below_drew1) | exact HB.out)) hb); clear HB; have HB := n0_; clear n0_; (try clear hb); (try clear hb2); (try clear hk); (try clear hi)) | ((with_reducible refine gate_callee (f := 17) rfl ?_); refine goesL_ (some 39) rfl rfl Try.func17 (by kernel_rfl) rfl #[.int .i64 t245] rfl (by (try simp only [List.map_toArray, List.map_cons, List.map_nil]); first | done | rfl | (simp only [List.length_drop, List.length_take]; rfl)) ?_; (with_reducible refine (wharflaw01_num.calls t245 t246 _ A20.out).mono ?_); rintro e w' ⟨rfl, ⟨nd, rfl⟩⟩; refine ⟨_, rfl, ?_⟩))
                    go_ret
                    exact ⟨by first | rfl | (simp [errW_none, errW_some] <;> rfl) | (simp [*, errW_none, errW_some] <;> rfl), by repeat (first | (with_reducible first | exact HB.out | apply below_alloc | apply pw_below_drewN | apply below_drew1) | exact HB.out)⟩
                · rw [if_neg c18] at H
                  exact absurd H (by simp)
              · rw [if_neg c17] at H
                exact absurd H (by simp)

end Go.Proofs.Ytaplfbnjoifggaa.H
