-- written by hp.py for this claim, out of the kit's printer and texts of my own
import Derived.Test.YtaaoaikfkgbfhaaHx0
import Derived.Test.YtaaoaikfkgbfhaaHx8
import Derived.Test.YtaaoaikfkgbfhaaHx17
import Derived.Test.YtaaoaikfkgbfhaaHx19
import Derived.Test.YtaaoaikfkgbfhaaHx21
namespace Go.Proofs.Ytaaoaikfkgbfhaa.H
open Go.RowKit Go.Proofs.YtaaoaikfkgbfhaaW.PrintWords Go.Proofs.YtaaoaikfkgbfhaaW.PrintLast Go.Proofs.YtaaoaikfkgbfhaaW.PrintMore
attribute [local go_sem] max2_int min2_int max_two min_two max_three min_three max_four min_four   -- for this text's walks alone
set_option linter.unusedVariables false
set_option linter.unusedSimpArgs false

/-! ### wharflaw16_ShadeShort: function 6 -/
mutual
def wharflaw16_ShadeShort.j0 : Nat → ByteArray → Int → Int → Bool → Option (Bool)
  | 0, _, _, _, _ => none
  | k + 1, x0, x1, x2, x42 => if x42 = true then ((wharflaw16_live.f k).bind fun t209 => (some t209)) else ((shade_ToHtml.f x0 x1).bind fun t210 => ((shade_ToHtml.f x0 (wrap64 (x1 + x2))).bind fun t211 => ((wharfref01_Signs.f k t210).bind fun bt212 => (if (t210.size : Int) > x1 then (wharflaw16_ShadeShort.j1 k x0 t210 true) else (if (t211.size : Int) < (t210.size : Int) then (wharflaw16_ShadeShort.j1 k x0 t210 true) else (if 0 ≤ (t210.size : Int) then (if (t210.size : Int) ≤ (t211.size : Int) then (if (t211.extract 0 t210.size).toList = t210.toList then (wharflaw16_ShadeShort.j1 k x0 t210 (!bt212.2)) else (wharflaw16_ShadeShort.j1 k x0 t210 true)) else (none)) else (none)))))))
def wharflaw16_ShadeShort.j1 : Nat → ByteArray → ByteArray → Bool → Option (Bool)
  | 0, _, _, _ => none
  | k + 1, x0, x9, x79 => if x79 = true then (some false) else (wharflaw16_ShadeShort.l0 k x0 x9 0)
def wharflaw16_ShadeShort.l0 : Nat → ByteArray → ByteArray → Int → Option (Bool)
  | 0, _, _, _ => none
  | k + 1, x0, x9, x13 => if x13 < (x9.size : Int) then (if 0 ≤ x13 then (if (bt x9 x13) = 60 then (if (x9.size : Int) < (wrap64 (x13 + 4)) then (some false) else (if x13 ≤ (wrap64 (x13 + 4)) then (if (wrap64 (x13 + 4)) ≤ (x9.size : Int) then (if (x9.extract (x13 : Int).toNat ((wrap64 (x13 + 4)) : Int).toNat).toList = ([60, 66, 82, 62] : List UInt8) then (wharflaw16_ShadeShort.l0 k x0 x9 (wrap64 (x13 + 1))) else (some false)) else (none)) else (none))) else (wharflaw16_ShadeShort.l0 k x0 x9 (wrap64 (x13 + 1)))) else (none)) else ((shade_FromHtml.f x9).bind fun t216 => (if (t216.size : Int) ≤ (x0.size : Int) then (if 0 ≤ (t216.size : Int) then (if (x0.extract 0 t216.size).toList = t216.toList then ((wharflaw16_live.f k).bind fun t217 => (some t217)) else (some false)) else (none)) else (some false)))
end
def wharflaw16_ShadeShort.f (k : Nat) (a0 : ByteArray) (a1 : Int) (a2 : Int) : Option (Bool) := (wharfref01_Signs.f k a0).bind fun bt205 => (if (a0.size : Int) > 5000 then (wharflaw16_ShadeShort.j0 k a0 a1 a2 true) else (if bt205.2 = true then (if a1 < 0 then (wharflaw16_ShadeShort.j0 k a0 a1 a2 true) else (if a1 > 5000 then (wharflaw16_ShadeShort.j0 k a0 a1 a2 true) else (if a2 < 0 then (wharflaw16_ShadeShort.j0 k a0 a1 a2 true) else (wharflaw16_ShadeShort.j0 k a0 a1 a2 (decide (a2 > 5000)))))) else (wharflaw16_ShadeShort.j0 k a0 a1 a2 true)))
theorem wharflaw16_ShadeShort.mono_l : ∀ k, (∀ y0 y1 y2 y3, LeO (wharflaw16_ShadeShort.j0 k y0 y1 y2 y3) (wharflaw16_ShadeShort.j0 (k + 1) y0 y1 y2 y3)) ∧ (∀ y0 y1 y2, LeO (wharflaw16_ShadeShort.j1 k y0 y1 y2) (wharflaw16_ShadeShort.j1 (k + 1) y0 y1 y2)) ∧ (∀ y0 y1 y2, LeO (wharflaw16_ShadeShort.l0 k y0 y1 y2) (wharflaw16_ShadeShort.l0 (k + 1) y0 y1 y2))
  | 0 => ⟨fun _ _ _ _ r h => by simp [wharflaw16_ShadeShort.j0] at h, fun _ _ _ r h => by simp [wharflaw16_ShadeShort.j1] at h, fun _ _ _ r h => by simp [wharflaw16_ShadeShort.l0] at h⟩
  | k + 1 => by
    obtain ⟨ih0, ih1, ih2⟩ := wharflaw16_ShadeShort.mono_l k
    refine ⟨?_, ?_, ?_⟩
    · intro y0 y1 y2 y3
      unfold wharflaw16_ShadeShort.j0
      repeat' first
      | (with_reducible exact ih0 _ _ _ _)
      | (with_reducible exact ih1 _ _ _)
      | (with_reducible exact ih2 _ _ _)
      | (with_reducible exact wharflaw16_live.mono _)
      | (with_reducible exact wharfref01_Signs.mono _ _)
      | (with_reducible exact LeO.refl _)
      | (with_reducible exact LeO.none _)
      | (with_reducible refine LeO.ite ?_ ?_)
      | (with_reducible refine LeO.bind ?_ (fun _ => ?_))
      | exact ih0 _ _ _ _
      | exact ih1 _ _ _
      | exact ih2 _ _ _
      | exact wharflaw16_live.mono _
      | exact wharfref01_Signs.mono _ _
      | exact LeO.none _
      | refine LeO.ite ?_ ?_
      | refine LeO.bind ?_ (fun _ => ?_)
    · intro y0 y1 y2
      unfold wharflaw16_ShadeShort.j1
      repeat' first
      | (with_reducible exact ih0 _ _ _ _)
      | (with_reducible exact ih1 _ _ _)
      | (with_reducible exact ih2 _ _ _)
      | (with_reducible exact wharflaw16_live.mono _)
      | (with_reducible exact wharfref01_Signs.mono _ _)
      | (with_reducible exact LeO.refl _)
      | (with_reducible exact LeO.none _)
      | (with_reducible refine LeO.ite ?_ ?_)
      | (with_reducible refine LeO.bind ?_ (fun _ => ?_))
      | exact ih0 _ _ _ _
      | exact ih1 _ _ _
      | exact ih2 _ _ _
      | exact wharflaw16_live.mono _
      | exact wharfref01_Signs.mono _ _
      | exact LeO.none _
      | refine LeO.ite ?_ ?_
      | refine LeO.bind ?_ (fun _ => ?_)
    · intro y0 y1 y2
      unfold wharflaw16_ShadeShort.l0
      repeat' first
      | (with_reducible exact ih0 _ _ _ _)
      | (with_reducible exact ih1 _ _ _)
      | (with_reducible exact ih2 _ _ _)
      | (with_reducible exact wharflaw16_live.mono _)
      | (with_reducible exact wharfref01_Signs.mono _ _)
      | (with_reducible exact LeO.refl _)
      | (with_reducible exact LeO.none _)
      | (with_reducible refine LeO.ite ?_ ?_)
      | (with_reducible refine LeO.bind ?_ (fun _ => ?_))
      | exact ih0 _ _ _ _
      | exact ih1 _ _ _
      | exact ih2 _ _ _
      | exact wharflaw16_live.mono _
      | exact wharfref01_Signs.mono _ _
      | exact LeO.none _
      | refine LeO.ite ?_ ?_
      | refine LeO.bind ?_ (fun _ => ?_)
theorem wharflaw16_ShadeShort.mono : ∀ a0 a1 a2 k, LeO (wharflaw16_ShadeShort.f k a0 a1 a2) (wharflaw16_ShadeShort.f (k + 1) a0 a1 a2) := by
  intro a0 a1 a2 k
  obtain ⟨ih0, ih1, ih2⟩ := wharflaw16_ShadeShort.mono_l k
  unfold wharflaw16_ShadeShort.f
  repeat' first
      | (with_reducible exact ih0 _ _ _ _)
      | (with_reducible exact ih1 _ _ _)
      | (with_reducible exact ih2 _ _ _)
      | (with_reducible exact wharflaw16_live.mono _)
      | (with_reducible exact wharfref01_Signs.mono _ _)
      | (with_reducible exact LeO.refl _)
      | (with_reducible exact LeO.none _)
      | (with_reducible refine LeO.ite ?_ ?_)
      | (with_reducible refine LeO.bind ?_ (fun _ => ?_))
      | exact ih0 _ _ _ _
      | exact ih1 _ _ _
      | exact ih2 _ _ _
      | exact wharflaw16_live.mono _
      | exact wharfref01_Signs.mono _ _
      | exact LeO.none _
      | refine LeO.ite ?_ ?_
      | refine LeO.bind ?_ (fun _ => ?_)
set_option maxHeartbeats 8000000 in
set_option maxRecDepth 100000 in
theorem wharflaw16_ShadeShort.callsT (k : Nat) (a0 : ByteArray) (a1 : Int) (a2 : Int) (r : Bool) (w : World) (HT_ : Aside0 (r = true)) (h : wharflaw16_ShadeShort.f k a0 a1 a2 = some r) :
    Calls Try.prog 6 #[.string a0, .int .i64 a1, .int .i64 a2] w fun e w' => e = .returned (.bool r) ∧ Below w.heap.size w w' := by
  have HB := Aside0.mk (Below.refl w.heap.size w)
  have H : ((wharfref01_Signs.f k a0).bind fun bt205 => (if (a0.size : Int) > 5000 then (wharflaw16_ShadeShort.j0 k a0 a1 a2 true) else (if bt205.2 = true then (if a1 < 0 then (wharflaw16_ShadeShort.j0 k a0 a1 a2 true) else (if a1 > 5000 then (wharflaw16_ShadeShort.j0 k a0 a1 a2 true) else (if a2 < 0 then (wharflaw16_ShadeShort.j0 k a0 a1 a2 true) else (wharflaw16_ShadeShort.j0 k a0 a1 a2 (decide (a2 > 5000)))))) else (wharflaw16_ShadeShort.j0 k a0 a1 a2 true)))) = some r := h
  clear h
  replace H := Option.bind_eq_some_iff.mp H
  obtain ⟨⟨t205, t206⟩, A40, H⟩ := H
  replace H : (if (a0.size : Int) > 5000 then (wharflaw16_ShadeShort.j0 k a0 a1 a2 true) else (if t206 = true then (if a1 < 0 then (wharflaw16_ShadeShort.j0 k a0 a1 a2 true) else (if a1 > 5000 then (wharflaw16_ShadeShort.j0 k a0 a1 a2 true) else (if a2 < 0 then (wharflaw16_ShadeShort.j0 k a0 a1 a2 true) else (wharflaw16_ShadeShort.j0 k a0 a1 a2 (decide (a2 > 5000)))))) else (wharflaw16_ShadeShort.j0 k a0 a1 a2 true))) = some r := H
  have A4 := Aside0.mk A40
  clear A40
  have HC5 := Aside0.mk H
  clear H
  go_enter Try.func6, Try.ntmps6
  go_upto_region 2 with (first | ((with_reducible refine gate_callee (f := 21) rfl ?_); refine goesL_ (some 17) rfl rfl Try.func21 (by kernel_rfl) rfl #[.string a0] rfl (by (try simp only [List.map_toArray, List.map_cons, List.map_nil]); first | done | rfl | (simp only [List.length_drop, List.length_take]; rfl)) ?_; (with_reducible refine (wharfref01_Signs.calls k a0 t205 t206 _ A4.out).mono ?_); rintro e w6 ⟨v207, rfl, ho0, hb⟩; refine ⟨_, rfl, ?_⟩; have n0_ := Aside0.mk (Kd.R_lower ho0 (below_size (by repeat (first | (with_reducible first | exact HB.out | apply below_alloc | apply pw_below_drewN | apply below_drew1) | exact HB.out)))); have n1_ := Aside0.mk (below_step (by repeat (first | (with_reducible first | exact HB.out | apply below_alloc | apply pw_below_drewN | apply below_drew1) | exact HB.out)) hb); clear HB; have HO208 := n0_; have HB := n1_; clear n0_ n1_; (try clear hb); (try clear hb2); (try clear hk); (try clear hi); (try clear ho0)))
  (try simp only [Act.put, List.setIfInBounds_toArray, List.set_cons_zero, List.set_cons_succ])
  go_cut [42] (fun v42 wc => ∃ (kq : Nat) (x42_4 : Bool), v42 = .bool x42_4 ∧ Aside0 (wharflaw16_ShadeShort.j0 kq a0 a1 a2 x42_4 = some r) ∧ Aside0 (kq ≤ k) ∧ Aside0 (Below w.heap.size w wc))
  case first =>
    have H := HC5.out
    clear HC5
    by_cases c7 : (a0.size : Int) > 5000
    · rw [if_pos c7] at H
      have c7b0 : decide (5000 < (a0.size : Int)) = true := decide_eq_true c7
      have c7b1 : decide (5000 < a0.size) = true := decide_eq_true (by omega)
      clear c7
      (first | rw [c7b0] | (simp only [i64_w, i32_w]; rw [c7b0]) | skip)
      have H' := Aside0.mk H
      clear H
      go_wp2
      go_meet
      case rel => exact ⟨_, (true), (by first | rfl | (simp; done) | (simp [*]; done)), H', ⟨by first | omega | exact Nat.le_refl _⟩, ⟨by repeat (first | (with_reducible first | exact HB.out | apply below_alloc | apply pw_below_drewN | apply below_drew1) | exact HB.out)⟩⟩
    · rw [if_neg c7] at H
      have c7b0 : decide (5000 < (a0.size : Int)) = false := decide_eq_false c7
      have c7b1 : decide (5000 < a0.size) = false := decide_eq_false (by omega)
      clear c7
      (first | rw [c7b0] | (simp only [i64_w, i32_w]; rw [c7b0]) | skip)
      by_cases c8 : t206 = true
      · subst c8
        have H1 : (if a1 < 0 then (wharflaw16_ShadeShort.j0 k a0 a1 a2 true) else (if a1 > 5000 then (wharflaw16_ShadeShort.j0 k a0 a1 a2 true) else (if a2 < 0 then (wharflaw16_ShadeShort.j0 k a0 a1 a2 true) else (wharflaw16_ShadeShort.j0 k a0 a1 a2 (decide (a2 > 5000)))))) = some r := by rw [if_pos rfl] at H; exact H
        clear H
        have H := H1
        clear H1
        by_cases c9 : a1 < 0
        · rw [if_pos c9] at H
          have c9b0 : decide (a1 < 0) = true := decide_eq_true c9
          clear c9
          have H' := Aside0.mk H
          clear H
          go_wp2
          go_meet
          case rel => exact ⟨_, (true), (by first | rfl | (simp; done) | (simp [*]; done)), H', ⟨by first | omega | exact Nat.le_refl _⟩, ⟨by repeat (first | (with_reducible first | exact HB.out | apply below_alloc | apply pw_below_drewN | apply below_drew1) | exact HB.out)⟩⟩
        · rw [if_neg c9] at H
          have c9b0 : decide (a1 < 0) = false := decide_eq_false c9
          clear c9
          by_cases c10 : a1 > 5000
          · rw [if_pos c10] at H
            have c10b0 : decide (5000 < a1) = true := decide_eq_true c10
            clear c10
            have H' := Aside0.mk H
            clear H
            go_wp2
            go_meet
            case rel => exact ⟨_, (true), (by first | rfl | (simp; done) | (simp [*]; done)), H', ⟨by first | omega | exact Nat.le_refl _⟩, ⟨by repeat (first | (with_reducible first | exact HB.out | apply below_alloc | apply pw_below_drewN | apply below_drew1) | exact HB.out)⟩⟩
          · rw [if_neg c10] at H
            have c10b0 : decide (5000 < a1) = false := decide_eq_false c10
            clear c10
            by_cases c11 : a2 < 0
            · rw [if_pos c11] at H
              have c11b0 : decide (a2 < 0) = true := decide_eq_true c11
              clear c11
              have H' := Aside0.mk H
              clear H
              go_wp2
              go_meet
              case rel => exact ⟨_, (true), (by first | rfl | (simp; done) | (simp [*]; done)), H', ⟨by first | omega | exact Nat.le_refl _⟩, ⟨by repeat (first | (with_reducible first | exact HB.out | apply below_alloc | apply pw_below_drewN | apply below_drew1) | exact HB.out)⟩⟩
            · rw [if_neg c11] at H
              have c11b0 : decide (a2 < 0) = false := decide_eq_false c11
              clear c11
              have H' := Aside0.mk H
              clear H
              go_wp2
              go_meet
              case rel => exact ⟨_, (decide (a2 > 5000)), (by first | rfl | (simp; done) | (simp [*]; done)), H', ⟨by first | omega | exact Nat.le_refl _⟩, ⟨by repeat (first | (with_reducible first | exact HB.out | apply below_alloc | apply pw_below_drewN | apply below_drew1) | exact HB.out)⟩⟩
      · replace c8 := Bool.eq_false_iff.mpr c8
        subst c8
        have H1 : (wharflaw16_ShadeShort.j0 k a0 a1 a2 true) = some r := by rw [if_neg (show ¬ (false = true) by decide)] at H; exact H
        clear H
        have H := H1
        clear H1
        have H' := Aside0.mk H
        clear H
        go_wp2
        go_meet
        case rel => exact ⟨_, (true), (by first | rfl | (simp; done) | (simp [*]; done)), H', ⟨by first | omega | exact Nat.le_refl _⟩, ⟨by repeat (first | (with_reducible first | exact HB.out | apply below_alloc | apply pw_below_drewN | apply below_drew1) | exact HB.out)⟩⟩
  case rest =>
    clear HC5
    try clear c1
    try clear c2
    try clear p2
    try clear c6
    try clear c7
    try clear c7b0
    try clear c7b1
    try clear c8
    try clear c9
    try clear c9b0
    try clear c10
    try clear c10b0
    try clear c11
    try clear c11b0
    obtain ⟨kq, x42_4, rfl, HA, HJ4, HB⟩ := hcut
    cases kq with
    | zero => exact absurd HA.out (by simp [wharflaw16_ShadeShort.j0])
    | succ kj4 =>
      have H := HA.out
      clear HA
      simp only [wharflaw16_ShadeShort.j0] at H
      by_cases c12 : x42_4 = true
      · subst c12
        have H1 : ((wharflaw16_live.f kj4).bind fun t209 => (some t209)) = some r := by rw [if_pos rfl] at H; exact H
        clear H
        have H := H1
        clear H1
        replace H := Option.bind_eq_some_iff.mp H
        obtain ⟨t209, A130, H⟩ := H
        replace H : (some t209) = some r := H
        have A13 := Aside0.mk A130
        clear A130
        obtain rfl := Option.some.inj H
        go_wp2_with (first | ((with_reducible refine gate_callee (f := 8) rfl ?_); refine goesL_ (some 43) rfl rfl Try.func8 (by kernel_rfl) rfl #[] rfl (by (try simp only [List.map_toArray, List.map_cons, List.map_nil]); first | done | rfl | (simp only [List.length_drop, List.length_take]; rfl)) ?_; (with_reducible refine (wharflaw16_live.calls kj4  t209 _ A13.out).mono ?_); rintro e w14 ⟨rfl, hb⟩; refine ⟨_, rfl, ?_⟩; have n0_ := Aside0.mk (below_step (by repeat (first | (with_reducible first | exact HB.out | apply below_alloc | apply pw_below_drewN | apply below_drew1) | exact HB.out)) hb); clear HB; have HB := n0_; clear n0_; (try clear hb); (try clear hb2); (try clear hk); (try clear hi)))
        go_ret
        exact ⟨by first | rfl | (simp [errW_none, errW_some] <;> rfl) | (simp [*, errW_none, errW_some] <;> rfl), by repeat (first | (with_reducible first | exact HB.out | apply below_alloc | apply pw_below_drewN | apply below_drew1) | exact HB.out)⟩
      · replace c12 := Bool.eq_false_iff.mpr c12
        subst c12
        have H1 : ((shade_ToHtml.f a0 a1).bind fun t210 => ((shade_ToHtml.f a0 (wrap64 (a1 + a2))).bind fun t211 => ((wharfref01_Signs.f kj4 t210).bind fun bt212 => (if (t210.size : Int) > a1 then (wharflaw16_ShadeShort.j1 kj4 a0 t210 true) else (if (t211.size : Int) < (t210.size : Int) then (wharflaw16_ShadeShort.j1 kj4 a0 t210 true) else (if 0 ≤ (t210.size : Int) then (if (t210.size : Int) ≤ (t211.size : Int) then (if (t211.extract 0 t210.size).toList = t210.toList then (wharflaw16_ShadeShort.j1 kj4 a0 t210 (!bt212.2)) else (wharflaw16_ShadeShort.j1 kj4 a0 t210 true)) else (none)) else (none))))))) = some r := by rw [if_neg (show ¬ (false = true) by decide)] at H; exact H
        clear H
        have H := H1
        clear H1
        replace H := Option.bind_eq_some_iff.mp H
        obtain ⟨t210, A150, H⟩ := H
        replace H : ((shade_ToHtml.f a0 (wrap64 (a1 + a2))).bind fun t211 => ((wharfref01_Signs.f kj4 t210).bind fun bt212 => (if (t210.size : Int) > a1 then (wharflaw16_ShadeShort.j1 kj4 a0 t210 true) else (if (t211.size : Int) < (t210.size : Int) then (wharflaw16_ShadeShort.j1 kj4 a0 t210 true) else (if 0 ≤ (t210.size : Int) then (if (t210.size : Int) ≤ (t211.size : Int) then (if (t211.extract 0 t210.size).toList = t210.toList then (wharflaw16_ShadeShort.j1 kj4 a0 t210 (!bt212.2)) else (wharflaw16_ShadeShort.j1 kj4 a0 t210 true)) else (none)) else (none)))))) = some r := H
        have A15 := Aside0.mk A150
        clear A150
        replace H := Option.bind_eq_some_iff.mp H
        obtain ⟨t211, A160, H⟩ := H
        replace H : ((wharfref01_Signs.f kj4 t210).bind fun bt212 => (if (t210.size : Int) > a1 then (wharflaw16_ShadeShort.j1 kj4 a0 t210 true) else (if (t211.size : Int) < (t210.size : Int) then (wharflaw16_ShadeShort.j1 kj4 a0 t210 true) else (if 0 ≤ (t210.size : Int) then (if (t210.size : Int) ≤ (t211.size : Int) then (if (t211.extract 0 t210.size).toList = t210.toList then (wharflaw16_ShadeShort.j1 kj4 a0 t210 (!bt212.2)) else (wharflaw16_ShadeShort.j1 kj4 a0 t210 true)) else (none)) else (none))))) = some r := H
        have A16 := Aside0.mk A160
        clear A160
        replace H := Option.bind_eq_some_iff.mp H
        obtain ⟨⟨t212, t213⟩, A170, H⟩ := H
        replace H : (if (t210.size : Int) > a1 then (wharflaw16_ShadeShort.j1 kj4 a0 t210 true) else (if (t211.size : Int) < (t210.size : Int) then (wharflaw16_ShadeShort.j1 kj4 a0 t210 true) else (if 0 ≤ (t210.size : Int) then (if (t210.size : Int) ≤ (t211.size : Int) then (if (t211.extract 0 t210.size).toList = t210.toList then (wharflaw16_ShadeShort.j1 kj4 a0 t210 (!t213)) else (wharflaw16_ShadeShort.j1 kj4 a0 t210 true)) else (none)) else (none)))) = some r := H
        have A17 := Aside0.mk A170
        clear A170
        have HC18 := Aside0.mk H
        clear H
        go_upto_region 6 with (first | ((with_reducible refine gate_callee (f := 17) rfl ?_); refine goesL_ (some 46) rfl rfl Try.func17 (by kernel_rfl) rfl #[.string a0, .int .i64 a1] rfl (by (try simp only [List.map_toArray, List.map_cons, List.map_nil]); first | done | rfl | (simp only [List.length_drop, List.length_take]; rfl)) ?_; (with_reducible refine (shade_ToHtml.calls a0 a1 t210 _ A15.out).mono ?_); rintro e w19 ⟨rfl, hb⟩; refine ⟨_, rfl, ?_⟩; have n0_ := Aside0.mk (below_step (by repeat (first | (with_reducible first | exact HB.out | apply below_alloc | apply pw_below_drewN | apply below_drew1) | exact HB.out)) hb); clear HB; have HB := n0_; clear n0_; (try clear hb); (try clear hb2); (try clear hk); (try clear hi)) | ((with_reducible refine gate_callee (f := 17) rfl ?_); refine goesL_ (some 51) rfl rfl Try.func17 (by kernel_rfl) rfl #[.string a0, .int .i64 (wrap64 (a1 + a2))] rfl (by (try simp only [List.map_toArray, List.map_cons, List.map_nil]); first | done | rfl | (simp only [List.length_drop, List.length_take]; rfl)) ?_; (with_reducible refine (shade_ToHtml.calls a0 (wrap64 (a1 + a2)) t211 _ A16.out).mono ?_); rintro e w20 ⟨rfl, hb⟩; refine ⟨_, rfl, ?_⟩; have n0_ := Aside0.mk (below_step (by repeat (first | (with_reducible first | exact HB.out | apply below_alloc | apply pw_below_drewN | apply below_drew1) | exact HB.out)) hb); clear HB; have HB := n0_; clear n0_; (try clear hb); (try clear hb2); (try clear hk); (try clear hi)) | ((with_reducible refine gate_callee (f := 21) rfl ?_); refine goesL_ (some 54) rfl rfl Try.func21 (by kernel_rfl) rfl #[.string t210] rfl (by (try simp only [List.map_toArray, List.map_cons, List.map_nil]); first | done | rfl | (simp only [List.length_drop, List.length_take]; rfl)) ?_; (with_reducible refine (wharfref01_Signs.calls kj4 t210 t212 t213 _ A17.out).mono ?_); rintro e w21 ⟨v214, rfl, ho0, hb⟩; refine ⟨_, rfl, ?_⟩; have n0_ := Aside0.mk (Kd.R_lower ho0 (below_size (by repeat (first | (with_reducible first | exact HB.out | apply below_alloc | apply pw_below_drewN | apply below_drew1) | exact HB.out)))); have n1_ := Aside0.mk (below_step (by repeat (first | (with_reducible first | exact HB.out | apply below_alloc | apply pw_below_drewN | apply below_drew1) | exact HB.out)) hb); clear HB; have HO215 := n0_; have HB := n1_; clear n0_ n1_; (try clear hb); (try clear hb2); (try clear hk); (try clear hi); (try clear ho0)))
        (try simp only [Act.put, List.setIfInBounds_toArray, List.set_cons_zero, List.set_cons_succ])
        go_cut [79] (fun v79 wc => ∃ (kq : Nat) (x79_17 : Bool), v79 = .bool x79_17 ∧ Aside0 (wharflaw16_ShadeShort.j1 kq a0 t210 x79_17 = some r) ∧ Aside0 (kq ≤ kj4) ∧ Aside0 (Below w.heap.size w wc))
        case first =>
          have H := HC18.out
          clear HC18
          by_cases c22 : (t210.size : Int) > a1
          · rw [if_pos c22] at H
            have c22b0 : decide (a1 < (t210.size : Int)) = true := decide_eq_true c22
            clear c22
            (first | rw [c22b0] | (simp only [i64_w, i32_w]; rw [c22b0]) | skip)
            have H' := Aside0.mk H
            clear H
            go_wp2
            go_meet
            case rel => exact ⟨_, (true), (by first | rfl | (simp; done) | (simp [*]; done)), H', ⟨by have := HJ4.out; first | omega | exact Nat.le_refl _⟩, ⟨by repeat (first | (with_reducible first | exact HB.out | apply below_alloc | apply pw_below_drewN | apply below_drew1) | exact HB.out)⟩⟩
          · rw [if_neg c22] at H
            have c22b0 : decide (a1 < (t210.size : Int)) = false := decide_eq_false c22
            clear c22
            (first | rw [c22b0] | (simp only [i64_w, i32_w]; rw [c22b0]) | skip)
            by_cases c23 : (t211.size : Int) < (t210.size : Int)
            · rw [if_pos c23] at H
              have c23b0 : decide ((t211.size : Int) < (t210.size : Int)) = true := decide_eq_true c23
              have c23b1 : decide (t211.size < t210.size) = true := decide_eq_true (Int.ofNat_lt.mp c23)
              clear c23
              have H' := Aside0.mk H
              clear H
              go_wp2
              go_meet
              case rel => exact ⟨_, (true), (by first | rfl | (simp; done) | (simp [*]; done)), H', ⟨by have := HJ4.out; first | omega | exact Nat.le_refl _⟩, ⟨by repeat (first | (with_reducible first | exact HB.out | apply below_alloc | apply pw_below_drewN | apply below_drew1) | exact HB.out)⟩⟩
            · rw [if_neg c23] at H
              have c23b0 : decide ((t211.size : Int) < (t210.size : Int)) = false := decide_eq_false c23
              have c23b1 : decide (t211.size < t210.size) = false := decide_eq_false (fun h => c23 (Int.ofNat_lt.mpr h))
              clear c23
              by_cases c24 : 0 ≤ (t210.size : Int)
              · rw [if_pos c24] at H
                have c24b0 := eq_true c24
                have c24b1 : decide (0 ≤ (t210.size : Int)) = true := decide_eq_true c24
                clear c24
                by_cases c25 : (t210.size : Int) ≤ (t211.size : Int)
                · rw [if_pos c25] at H
                  have c25b0 := eq_true c25
                  have c25b1 : decide ((t210.size : Int) ≤ (t211.size : Int)) = true := decide_eq_true c25
                  clear c25
                  by_cases c26 : (t211.extract 0 t210.size).toList = t210.toList
                  · rw [if_pos c26] at H
                    have c26b0 : ((t211.extract 0 t210.size).toList == t210.toList) = true := beq_iff_eq.mpr c26
                    have c26b1 : ((t211.extract 0 t210.size).toList != t210.toList) = false := bne_eq_false_iff_eq.mpr c26
                    clear c26
                    have H' := Aside0.mk H
                    clear H
                    go_wp2
                    go_meet
                    case rel => exact ⟨_, (!t213), (by first | rfl | (simp; done) | (simp [*]; done)), H', ⟨by have := HJ4.out; first | omega | exact Nat.le_refl _⟩, ⟨by repeat (first | (with_reducible first | exact HB.out | apply below_alloc | apply pw_below_drewN | apply below_drew1) | exact HB.out)⟩⟩
                  · rw [if_neg c26] at H
                    have c26b0 : ((t211.extract 0 t210.size).toList == t210.toList) = false := beq_eq_false_iff_ne.mpr c26
                    have c26b1 : ((t211.extract 0 t210.size).toList != t210.toList) = true := bne_iff_ne.mpr c26
                    have H' := Aside0.mk H
                    clear H
                    go_wp2
                    go_meet
                    case rel => exact ⟨_, (true), (by first | rfl | (simp; done) | (simp [*]; done)), H', ⟨by have := HJ4.out; first | omega | exact Nat.le_refl _⟩, ⟨by repeat (first | (with_reducible first | exact HB.out | apply below_alloc | apply pw_below_drewN | apply below_drew1) | exact HB.out)⟩⟩
                · rw [if_neg c25] at H
                  exact absurd H (by simp)
              · rw [if_neg c24] at H
                exact absurd H (by simp)
        case rest =>
          clear HC18
          try clear c1
          try clear c2
          try clear p2
          try clear c6
          try clear p6
          try clear c7
          try clear c7b0
          try clear c7b1
          try clear c8
          try clear c9
          try clear c9b0
          try clear c10
          try clear c10b0
          try clear c11
          try clear c11b0
          try clear c12
          try clear c17
          try clear c21
          try clear c22
          try clear c22b0
          try clear c23
          try clear c23b0
          try clear c23b1
          try clear c24
          try clear c24b0
          try clear c24b1
          try clear c25
          try clear c25b0
          try clear c25b1
          try clear c26
          try clear c26b0
          try clear c26b1
          try clear p2
          obtain ⟨kq, x79_17, rfl, HA, HJ17, HB⟩ := hcut
          cases kq with
          | zero => exact absurd HA.out (by simp [wharflaw16_ShadeShort.j1])
          | succ kj17 =>
            have H := HA.out
            clear HA
            simp only [wharflaw16_ShadeShort.j1] at H
            by_cases c27 : x79_17 = true
            · subst c27
              have H1 : (some false) = some r := by rw [if_pos rfl] at H; exact H
              clear H
              have H := H1
              clear H1
              exact absurd (Option.some.inj H) (by rw [HT_.out]; exact Bool.false_ne_true)
            · replace c27 := Bool.eq_false_iff.mpr c27
              subst c27
              have H1 : (wharflaw16_ShadeShort.l0 kj17 a0 t210 0) = some r := by rw [if_neg (show ¬ (false = true) by decide)] at H; exact H
              clear H
              have H := H1
              clear H1
              have H' := Aside0.mk H
              clear H
              go_wp2
              go_loopg [13] kj17 (fun kq v13 w' => ∃ (x13_3 : Int), v13 = .int .i64 x13_3 ∧ Aside0 (wharflaw16_ShadeShort.l0 kq a0 t210 x13_3 = some r) ∧ Aside0 (kq ≤ kj17) ∧ Aside0 (Below w.heap.size w w'))
              case atStart => exact ⟨(0), (by first | rfl | (simp; done) | (simp [*]; done)), H', ⟨Nat.le_refl _⟩, ⟨by repeat (first | (with_reducible first | exact HB.out | apply below_alloc | apply pw_below_drewN | apply below_drew1) | exact HB.out)⟩⟩
              case round =>
                clear H'
                try clear c1
                try clear c2
                try clear p2
                try clear c6
                try clear p6
                try clear c7
                try clear c7b0
                try clear c7b1
                try clear c8
                try clear c9
                try clear c9b0
                try clear c10
                try clear c10b0
                try clear c11
                try clear c11b0
                try clear c12
                try clear c17
                try clear c21
                try clear c22
                try clear c22b0
                try clear c23
                try clear c23b0
                try clear c23b1
                try clear c24
                try clear c24b0
                try clear c24b1
                try clear c25
                try clear c25b0
                try clear c25b1
                try clear c26
                try clear c26b0
                try clear c26b1
                try clear c27
                try clear p2
                try clear p6
                obtain ⟨x13_3, rfl, HA, HK3, HB⟩ := hrel
                cases gk with
                | zero => exact absurd HA.out (by simp [wharflaw16_ShadeShort.l0])
                | succ k3 =>
                  have H := HA.out
                  clear HA
                  simp only [wharflaw16_ShadeShort.l0] at H
                  by_cases c28 : x13_3 < (t210.size : Int)
                  · rw [if_pos c28] at H
                    have c28b0 : decide (x13_3 < (t210.size : Int)) = true := decide_eq_true c28
                    clear c28
                    by_cases c29 : 0 ≤ x13_3
                    · rw [if_pos c29] at H
                      have c29b0 : decide (0 ≤ x13_3) = true := decide_eq_true c29
                      clear c29
                      by_cases c31 : (bt t210 x13_3) = 60
                      · rw [if_pos c31] at H
                        have c31b0 : ((bt t210 x13_3) == 60) = true := beq_iff_eq.mpr c31
                        have c31b1 : ((bt t210 x13_3) != 60) = false := bne_eq_false_iff_eq.mpr c31
                        clear c31
                        by_cases c32 : (t210.size : Int) < (wrap64 (x13_3 + 4))
                        · rw [if_pos c32] at H
                          have c32b0 : decide ((t210.size : Int) < (wrap64 (x13_3 + 4))) = true := decide_eq_true c32
                          clear c32
                          exact absurd (Option.some.inj H) (by rw [HT_.out]; exact Bool.false_ne_true)
                        · rw [if_neg c32] at H
                          have c32b0 : decide ((t210.size : Int) < (wrap64 (x13_3 + 4))) = false := decide_eq_false c32
                          clear c32
                          have c33b0 := eq_true (of_decide_eq_true (by first | (with_reducible assumption) | assumption) : 0 ≤ x13_3)
                          by_cases c34 : x13_3 ≤ (wrap64 (x13_3 + 4))
                          · rw [if_pos c34] at H
                            have c34b0 := eq_true c34
                            have c34b1 : decide (x13_3 ≤ (wrap64 (x13_3 + 4))) = true := decide_eq_true c34
                            by_cases c35 : (wrap64 (x13_3 + 4)) ≤ (t210.size : Int)
                            · rw [if_pos c35] at H
                              have c35b0 := eq_true c35
                              have c35b1 : decide ((wrap64 (x13_3 + 4)) ≤ (t210.size : Int)) = true := decide_eq_true c35
                              by_cases c36 : (t210.extract (x13_3 : Int).toNat ((wrap64 (x13_3 + 4)) : Int).toNat).toList = ([60, 66, 82, 62] : List UInt8)
                              · rw [if_pos c36] at H
                                have c36b0 : ((t210.extract (x13_3 : Int).toNat ((wrap64 (x13_3 + 4)) : Int).toNat).toList == ([60, 66, 82, 62] : List UInt8)) = true := beq_iff_eq.mpr c36
                                have c36b1 : ((t210.extract (x13_3 : Int).toNat ((wrap64 (x13_3 + 4)) : Int).toNat).toList != ([60, 66, 82, 62] : List UInt8)) = false := bne_eq_false_iff_eq.mpr c36
                                clear c36
                                have H' := Aside0.mk H
                                clear H
                                have p30 : 0 ≤ (x13_3 : Int) := of_decide_eq_true (by first | (with_reducible assumption) | assumption)
                                have q30 : x13_3 < (t210.size : Int) := of_decide_eq_true (by first | (with_reducible assumption) | assumption)
                                have hx30 := bt_at t210 x13_3
                                replace p30 := eq_true p30
                                replace q30 := eq_true q30
                                go_wp2
                                go_roundg k3
                                case measure => have := HJ4.out; have := HJ17.out; have := HK3.out; omega
                                case rel => exact ⟨(wrap64 (x13_3 + 1)), (by first | rfl | (simp; done) | (simp [*]; done)), H', ⟨by have := HJ4.out; have := HJ17.out; have := HK3.out; omega⟩, ⟨by repeat (first | (with_reducible first | exact HB.out | apply below_alloc | apply pw_below_drewN | apply below_drew1) | exact HB.out)⟩⟩
                              · rw [if_neg c36] at H
                                have c36b0 : ((t210.extract (x13_3 : Int).toNat ((wrap64 (x13_3 + 4)) : Int).toNat).toList == ([60, 66, 82, 62] : List UInt8)) = false := beq_eq_false_iff_ne.mpr c36
                                have c36b1 : ((t210.extract (x13_3 : Int).toNat ((wrap64 (x13_3 + 4)) : Int).toNat).toList != ([60, 66, 82, 62] : List UInt8)) = true := bne_iff_ne.mpr c36
                                exact absurd (Option.some.inj H) (by rw [HT_.out]; exact Bool.false_ne_true)
                            · rw [if_neg c35] at H
                              exact absurd H (by simp)
                          · rw [if_neg c34] at H
                            exact absurd H (by simp)
                      · rw [if_neg c31] at H
                        have c31b0 : ((bt t210 x13_3) == 60) = false := beq_eq_false_iff_ne.mpr c31
                        have c31b1 : ((bt t210 x13_3) != 60) = true := bne_iff_ne.mpr c31
                        have H' := Aside0.mk H
                        clear H
                        have p30 : 0 ≤ (x13_3 : Int) := of_decide_eq_true (by first | (with_reducible assumption) | assumption)
                        have q30 : x13_3 < (t210.size : Int) := of_decide_eq_true (by first | (with_reducible assumption) | assumption)
                        have hx30 := bt_at t210 x13_3
                        replace p30 := eq_true p30
                        replace q30 := eq_true q30
                        go_wp2
                        go_roundg k3
                        case measure => have := HJ4.out; have := HJ17.out; have := HK3.out; omega
                        case rel => exact ⟨(wrap64 (x13_3 + 1)), (by first | rfl | (simp; done) | (simp [*]; done)), H', ⟨by have := HJ4.out; have := HJ17.out; have := HK3.out; omega⟩, ⟨by repeat (first | (with_reducible first | exact HB.out | apply below_alloc | apply pw_below_drewN | apply below_drew1) | exact HB.out)⟩⟩
                    · rw [if_neg c29] at H
                      exact absurd H (by simp)
                  · rw [if_neg c28] at H
                    have c28b0 : decide (x13_3 < (t210.size : Int)) = false := decide_eq_false c28
                    clear c28
                    replace H := Option.bind_eq_some_iff.mp H
                    obtain ⟨t216, A370, H⟩ := H
                    replace H : (if (t216.size : Int) ≤ (a0.size : Int) then (if 0 ≤ (t216.size : Int) then (if (a0.extract 0 t216.size).toList = t216.toList then ((wharflaw16_live.f k3).bind fun t217 => (some t217)) else (some false)) else (none)) else (some false)) = some r := H
                    have A37 := Aside0.mk A370
                    clear A370
                    by_cases c38 : (t216.size : Int) ≤ (a0.size : Int)
                    · rw [if_pos c38] at H
                      have c38b0 : decide ((t216.size : Int) ≤ (a0.size : Int)) = true := decide_eq_true c38
                      have c38b1 : decide (t216.size ≤ a0.size) = true := decide_eq_true (Int.ofNat_le.mp c38)
                      clear c38
                      by_cases c39 : 0 ≤ (t216.size : Int)
                      · rw [if_pos c39] at H
                        have c39b0 := eq_true c39
                        have c39b1 : decide (0 ≤ (t216.size : Int)) = true := decide_eq_true c39
                        clear c39
                        have c40b0 := eq_true (of_decide_eq_true (by first | (with_reducible assumption) | assumption) : (t216.size : Int) ≤ (a0.size : Int))
                        by_cases c41 : (a0.extract 0 t216.size).toList = t216.toList
                        · rw [if_pos c41] at H
                          have c41b0 : ((a0.extract 0 t216.size).toList == t216.toList) = true := beq_iff_eq.mpr c41
                          have c41b1 : ((a0.extract 0 t216.size).toList != t216.toList) = false := bne_eq_false_iff_eq.mpr c41
                          clear c41
                          replace H := Option.bind_eq_some_iff.mp H
                          obtain ⟨t217, A420, H⟩ := H
                          replace H : (some t217) = some r := H
                          have A42 := Aside0.mk A420
                          clear A420
                          obtain rfl := Option.some.inj H
                          go_wp2_with (first | ((with_reducible refine gate_callee (f := 19) rfl ?_); refine goesL_ (some 106) rfl rfl Try.func19 (by kernel_rfl) rfl #[.string t210] rfl (by (try simp only [List.map_toArray, List.map_cons, List.map_nil]); first | done | rfl | (simp only [List.length_drop, List.length_take]; rfl)) ?_; (with_reducible refine (shade_FromHtml.calls t210 t216 _ A37.out).mono ?_); rintro e w43 ⟨rfl, hb⟩; refine ⟨_, rfl, ?_⟩; have n0_ := Aside0.mk (below_step (by repeat (first | (with_reducible first | exact HB.out | apply below_alloc | apply pw_below_drewN | apply below_drew1) | exact HB.out)) hb); clear HB; have HB := n0_; clear n0_; (try clear hb); (try clear hb2); (try clear hk); (try clear hi)) | (go_at_call 8; (with_reducible refine (wharflaw16_live.calls k3  t217 _ A42.out).mono ?_); rintro e w44 ⟨rfl, hb⟩; have n0_ := Aside0.mk (below_step (by repeat (first | (with_reducible first | exact HB.out | apply below_alloc | apply pw_below_drewN | apply below_drew1) | exact HB.out)) hb); clear HB; have HB := n0_; clear n0_; (try clear hb); (try clear hb2); (try clear hk); (try clear hi)))
                          go_ret
                          exact ⟨by first | rfl | (simp [errW_none, errW_some] <;> rfl) | (simp [*, errW_none, errW_some] <;> rfl), by repeat (first | (with_reducible first | exact HB.out | apply below_alloc | apply pw_below_drewN | apply below_drew1) | exact HB.out)⟩
                        · rw [if_neg c41] at H
                          have c41b0 : ((a0.extract 0 t216.size).toList == t216.toList) = false := beq_eq_false_iff_ne.mpr c41
                          have c41b1 : ((a0.extract 0 t216.size).toList != t216.toList) = true := bne_iff_ne.mpr c41
                          exact absurd (Option.some.inj H) (by rw [HT_.out]; exact Bool.false_ne_true)
                      · rw [if_neg c39] at H
                        exact absurd H (by simp)
                    · rw [if_neg c38] at H
                      have c38b0 : decide ((t216.size : Int) ≤ (a0.size : Int)) = false := decide_eq_false c38
                      have c38b1 : decide (t216.size ≤ a0.size) = false := decide_eq_false (fun h => c38 (Int.ofNat_le.mpr h))
                      clear c38
                      exact absurd (Option.some.inj H) (by rw [HT_.out]; exact Bool.false_ne_true)

end Go.Proofs.Ytaaoaikfkgbfhaa.H
