-- written by hp.py for this claim, out of the kit's printer and texts of my own
import Derived.Test.YtaaoaikfkgbfhaaHx0
import Derived.Test.YtaaoaikfkgbfhaaHx9
import Derived.Test.YtaaoaikfkgbfhaaHx11
import Derived.Test.YtaaoaikfkgbfhaaHx13
import Derived.Test.YtaaoaikfkgbfhaaHx15
import Derived.Test.YtaaoaikfkgbfhaaHx17
import Derived.Test.YtaaoaikfkgbfhaaHx19
namespace Go.Proofs.Ytaaoaikfkgbfhaa.H
open Go.RowKit Go.Proofs.YtaaoaikfkgbfhaaW.PrintWords Go.Proofs.YtaaoaikfkgbfhaaW.PrintLast Go.Proofs.YtaaoaikfkgbfhaaW.PrintMore
attribute [local go_sem] max2_int min2_int max_two min_two max_three min_three max_four min_four   -- for this text's walks alone
set_option linter.unusedVariables false
set_option linter.unusedSimpArgs false

/-! ### wharflaw16_live: function 8 -/
def wharflaw16_live.f (k : Nat)  : Option (Bool) := (shade_Show.f k 33).bind fun bt107 => ((shade_Show.f k 256).bind fun bt109 => (if bt107.1.toList = ([97, 119, 97, 121] : List UInt8) then (if bt107.2 = true then (if bt109.2 = true then (some false) else ((shade_Status.f (⟨#[100, 110, 100]⟩ : ByteArray)).bind fun t111 => (if t111 = 2 then ((shade_ToHtml.f (⟨#[97, 60, 98, 10]⟩ : ByteArray) 100).bind fun t112 => (if t112.toList = ([97, 38, 108, 116, 59, 98, 60, 66, 82, 62] : List UInt8) then ((shade_FromHtml.f (⟨#[60, 66, 62, 97, 60, 47, 66, 62, 60, 98, 114, 62, 98, 38, 97, 109, 112, 59]⟩ : ByteArray)).bind fun t113 => (if t113.toList = ([97, 10, 98, 38] : List UInt8) then ((shade_Seconds.f 2).bind fun t114 => (if t114 = 120 then ((shade_Minutes.f 125).bind fun t115 => (some (t115 == 2))) else (some false))) else (some false))) else (some false))) else (some false)))) else (some false)) else (some false)))
theorem wharflaw16_live.mono : ∀ k, LeO (wharflaw16_live.f k ) (wharflaw16_live.f (k + 1) ) := by
  intro  k
  unfold wharflaw16_live.f
  repeat' first
      | (with_reducible exact shade_Show.mono _ _)
      | (with_reducible exact LeO.refl _)
      | (with_reducible exact LeO.none _)
      | (with_reducible refine LeO.ite ?_ ?_)
      | (with_reducible refine LeO.bind ?_ (fun _ => ?_))
      | exact shade_Show.mono _ _
      | exact LeO.none _
      | refine LeO.ite ?_ ?_
      | refine LeO.bind ?_ (fun _ => ?_)
set_option maxHeartbeats 8000000 in
set_option maxRecDepth 100000 in
theorem wharflaw16_live.callsT (k : Nat)  (r : Bool) (w : World) (HT_ : Aside0 (r = true)) (h : wharflaw16_live.f k  = some r) :
    Calls Try.prog 8 #[] w fun e w' => e = .returned (.bool r) ∧ Below w.heap.size w w' := by
  have HB := Aside0.mk (Below.refl w.heap.size w)
  have H : ((shade_Show.f k 33).bind fun bt107 => ((shade_Show.f k 256).bind fun bt109 => (if bt107.1.toList = ([97, 119, 97, 121] : List UInt8) then (if bt107.2 = true then (if bt109.2 = true then (some false) else ((shade_Status.f (⟨#[100, 110, 100]⟩ : ByteArray)).bind fun t111 => (if t111 = 2 then ((shade_ToHtml.f (⟨#[97, 60, 98, 10]⟩ : ByteArray) 100).bind fun t112 => (if t112.toList = ([97, 38, 108, 116, 59, 98, 60, 66, 82, 62] : List UInt8) then ((shade_FromHtml.f (⟨#[60, 66, 62, 97, 60, 47, 66, 62, 60, 98, 114, 62, 98, 38, 97, 109, 112, 59]⟩ : ByteArray)).bind fun t113 => (if t113.toList = ([97, 10, 98, 38] : List UInt8) then ((shade_Seconds.f 2).bind fun t114 => (if t114 = 120 then ((shade_Minutes.f 125).bind fun t115 => (some (t115 == 2))) else (some false))) else (some false))) else (some false))) else (some false)))) else (some false)) else (some false)))) = some r := h
  clear h
  replace H := Option.bind_eq_some_iff.mp H
  obtain ⟨⟨t107, t108⟩, A10, H⟩ := H
  replace H : ((shade_Show.f k 256).bind fun bt109 => (if t107.toList = ([97, 119, 97, 121] : List UInt8) then (if t108 = true then (if bt109.2 = true then (some false) else ((shade_Status.f (⟨#[100, 110, 100]⟩ : ByteArray)).bind fun t111 => (if t111 = 2 then ((shade_ToHtml.f (⟨#[97, 60, 98, 10]⟩ : ByteArray) 100).bind fun t112 => (if t112.toList = ([97, 38, 108, 116, 59, 98, 60, 66, 82, 62] : List UInt8) then ((shade_FromHtml.f (⟨#[60, 66, 62, 97, 60, 47, 66, 62, 60, 98, 114, 62, 98, 38, 97, 109, 112, 59]⟩ : ByteArray)).bind fun t113 => (if t113.toList = ([97, 10, 98, 38] : List UInt8) then ((shade_Seconds.f 2).bind fun t114 => (if t114 = 120 then ((shade_Minutes.f 125).bind fun t115 => (some (t115 == 2))) else (some false))) else (some false))) else (some false))) else (some false)))) else (some false)) else (some false))) = some r := H
  have A1 := Aside0.mk A10
  clear A10
  replace H := Option.bind_eq_some_iff.mp H
  obtain ⟨⟨t109, t110⟩, A20, H⟩ := H
  replace H : (if t107.toList = ([97, 119, 97, 121] : List UInt8) then (if t108 = true then (if t110 = true then (some false) else ((shade_Status.f (⟨#[100, 110, 100]⟩ : ByteArray)).bind fun t111 => (if t111 = 2 then ((shade_ToHtml.f (⟨#[97, 60, 98, 10]⟩ : ByteArray) 100).bind fun t112 => (if t112.toList = ([97, 38, 108, 116, 59, 98, 60, 66, 82, 62] : List UInt8) then ((shade_FromHtml.f (⟨#[60, 66, 62, 97, 60, 47, 66, 62, 60, 98, 114, 62, 98, 38, 97, 109, 112, 59]⟩ : ByteArray)).bind fun t113 => (if t113.toList = ([97, 10, 98, 38] : List UInt8) then ((shade_Seconds.f 2).bind fun t114 => (if t114 = 120 then ((shade_Minutes.f 125).bind fun t115 => (some (t115 == 2))) else (some false))) else (some false))) else (some false))) else (some false)))) else (some false)) else (some false)) = some r := H
  have A2 := Aside0.mk A20
  clear A20
  by_cases c3 : t107.toList = ([97, 119, 97, 121] : List UInt8)
  · rw [if_pos c3] at H
    have c3b0 : (t107.toList == ([97, 119, 97, 121] : List UInt8)) = true := beq_iff_eq.mpr c3
    have c3b1 : (t107.toList != ([97, 119, 97, 121] : List UInt8)) = false := bne_eq_false_iff_eq.mpr c3
    clear c3
    by_cases c4 : t108 = true
    · subst c4
      have H1 : (if t110 = true then (some false) else ((shade_Status.f (⟨#[100, 110, 100]⟩ : ByteArray)).bind fun t111 => (if t111 = 2 then ((shade_ToHtml.f (⟨#[97, 60, 98, 10]⟩ : ByteArray) 100).bind fun t112 => (if t112.toList = ([97, 38, 108, 116, 59, 98, 60, 66, 82, 62] : List UInt8) then ((shade_FromHtml.f (⟨#[60, 66, 62, 97, 60, 47, 66, 62, 60, 98, 114, 62, 98, 38, 97, 109, 112, 59]⟩ : ByteArray)).bind fun t113 => (if t113.toList = ([97, 10, 98, 38] : List UInt8) then ((shade_Seconds.f 2).bind fun t114 => (if t114 = 120 then ((shade_Minutes.f 125).bind fun t115 => (some (t115 == 2))) else (some false))) else (some false))) else (some false))) else (some false)))) = some r := by rw [if_pos rfl] at H; exact H
      clear H
      have H := H1
      clear H1
      by_cases c5 : t110 = true
      · subst c5
        have H1 : (some false) = some r := by rw [if_pos rfl] at H; exact H
        clear H
        have H := H1
        clear H1
        exact absurd (Option.some.inj H) (by rw [HT_.out]; exact Bool.false_ne_true)
      · replace c5 := Bool.eq_false_iff.mpr c5
        subst c5
        have H1 : ((shade_Status.f (⟨#[100, 110, 100]⟩ : ByteArray)).bind fun t111 => (if t111 = 2 then ((shade_ToHtml.f (⟨#[97, 60, 98, 10]⟩ : ByteArray) 100).bind fun t112 => (if t112.toList = ([97, 38, 108, 116, 59, 98, 60, 66, 82, 62] : List UInt8) then ((shade_FromHtml.f (⟨#[60, 66, 62, 97, 60, 47, 66, 62, 60, 98, 114, 62, 98, 38, 97, 109, 112, 59]⟩ : ByteArray)).bind fun t113 => (if t113.toList = ([97, 10, 98, 38] : List UInt8) then ((shade_Seconds.f 2).bind fun t114 => (if t114 = 120 then ((shade_Minutes.f 125).bind fun t115 => (some (t115 == 2))) else (some false))) else (some false))) else (some false))) else (some false))) = some r := by rw [if_neg (show ¬ (false = true) by decide)] at H; exact H
        clear H
        have H := H1
        clear H1
        replace H := Option.bind_eq_some_iff.mp H
        obtain ⟨t111, A60, H⟩ := H
        replace H : (if t111 = 2 then ((shade_ToHtml.f (⟨#[97, 60, 98, 10]⟩ : ByteArray) 100).bind fun t112 => (if t112.toList = ([97, 38, 108, 116, 59, 98, 60, 66, 82, 62] : List UInt8) then ((shade_FromHtml.f (⟨#[60, 66, 62, 97, 60, 47, 66, 62, 60, 98, 114, 62, 98, 38, 97, 109, 112, 59]⟩ : ByteArray)).bind fun t113 => (if t113.toList = ([97, 10, 98, 38] : List UInt8) then ((shade_Seconds.f 2).bind fun t114 => (if t114 = 120 then ((shade_Minutes.f 125).bind fun t115 => (some (t115 == 2))) else (some false))) else (some false))) else (some false))) else (some false)) = some r := H
        have A6 := Aside0.mk A60
        clear A60
        by_cases c7 : t111 = 2
        · rw [if_pos c7] at H
          have c7b0 : (t111 == 2) = true := beq_iff_eq.mpr c7
          have c7b1 : (t111 != 2) = false := bne_eq_false_iff_eq.mpr c7
          clear c7
          replace H := Option.bind_eq_some_iff.mp H
          obtain ⟨t112, A80, H⟩ := H
          replace H : (if t112.toList = ([97, 38, 108, 116, 59, 98, 60, 66, 82, 62] : List UInt8) then ((shade_FromHtml.f (⟨#[60, 66, 62, 97, 60, 47, 66, 62, 60, 98, 114, 62, 98, 38, 97, 109, 112, 59]⟩ : ByteArray)).bind fun t113 => (if t113.toList = ([97, 10, 98, 38] : List UInt8) then ((shade_Seconds.f 2).bind fun t114 => (if t114 = 120 then ((shade_Minutes.f 125).bind fun t115 => (some (t115 == 2))) else (some false))) else (some false))) else (some false)) = some r := H
          have A8 := Aside0.mk A80
          clear A80
          by_cases c9 : t112.toList = ([97, 38, 108, 116, 59, 98, 60, 66, 82, 62] : List UInt8)
          · rw [if_pos c9] at H
            have c9b0 : (t112.toList == ([97, 38, 108, 116, 59, 98, 60, 66, 82, 62] : List UInt8)) = true := beq_iff_eq.mpr c9
            have c9b1 : (t112.toList != ([97, 38, 108, 116, 59, 98, 60, 66, 82, 62] : List UInt8)) = false := bne_eq_false_iff_eq.mpr c9
            clear c9
            replace H := Option.bind_eq_some_iff.mp H
            obtain ⟨t113, A100, H⟩ := H
            replace H : (if t113.toList = ([97, 10, 98, 38] : List UInt8) then ((shade_Seconds.f 2).bind fun t114 => (if t114 = 120 then ((shade_Minutes.f 125).bind fun t115 => (some (t115 == 2))) else (some false))) else (some false)) = some r := H
            have A10 := Aside0.mk A100
            clear A100
            by_cases c11 : t113.toList = ([97, 10, 98, 38] : List UInt8)
            · rw [if_pos c11] at H
              have c11b0 : (t113.toList == ([97, 10, 98, 38] : List UInt8)) = true := beq_iff_eq.mpr c11
              have c11b1 : (t113.toList != ([97, 10, 98, 38] : List UInt8)) = false := bne_eq_false_iff_eq.mpr c11
              clear c11
              replace H := Option.bind_eq_some_iff.mp H
              obtain ⟨t114, A120, H⟩ := H
              replace H : (if t114 = 120 then ((shade_Minutes.f 125).bind fun t115 => (some (t115 == 2))) else (some false)) = some r := H
              have A12 := Aside0.mk A120
              clear A120
              by_cases c13 : t114 = 120
              · rw [if_pos c13] at H
                have c13b0 : (t114 == 120) = true := beq_iff_eq.mpr c13
                have c13b1 : (t114 != 120) = false := bne_eq_false_iff_eq.mpr c13
                clear c13
                replace H := Option.bind_eq_some_iff.mp H
                obtain ⟨t115, A140, H⟩ := H
                replace H : (some (t115 == 2)) = some r := H
                have A14 := Aside0.mk A140
                clear A140
                obtain rfl := Option.some.inj H
                go_enter Try.func8, Try.ntmps8
                go_wp2_with (first | ((with_reducible refine gate_callee (f := 9) rfl ?_); refine goesL_ (some 6) rfl rfl Try.func9 (by kernel_rfl) rfl #[.int .i64 33] rfl (by (try simp only [List.map_toArray, List.map_cons, List.map_nil]); first | done | rfl | (simp only [List.length_drop, List.length_take]; rfl)) ?_; (with_reducible refine (shade_Show.calls k 33 t107 true _ A1.out).mono ?_); rintro e w' ⟨rfl, ⟨nd, rfl⟩⟩; refine ⟨_, rfl, ?_⟩) | ((with_reducible refine gate_callee (f := 9) rfl ?_); refine goesL_ (some 10) rfl rfl Try.func9 (by kernel_rfl) rfl #[.int .i64 256] rfl (by (try simp only [List.map_toArray, List.map_cons, List.map_nil]); first | done | rfl | (simp only [List.length_drop, List.length_take]; rfl)) ?_; (with_reducible refine (shade_Show.calls k 256 t109 false _ A2.out).mono ?_); rintro e w' ⟨rfl, ⟨nd, rfl⟩⟩; refine ⟨_, rfl, ?_⟩) | (go_at_call 11; (with_reducible refine (shade_Status.calls (⟨#[100, 110, 100]⟩ : ByteArray) t111 _ A6.out).mono ?_); rintro e w' ⟨rfl, ⟨nd, rfl⟩⟩) | (go_at_call 17; (with_reducible refine (shade_ToHtml.calls (⟨#[97, 60, 98, 10]⟩ : ByteArray) 100 t112 _ A8.out).mono ?_); rintro e w15 ⟨rfl, hb⟩; have n0_ := Aside0.mk (below_step (by repeat (first | (with_reducible first | exact HB.out | apply below_alloc | apply pw_below_drewN | apply below_drew1) | exact HB.out)) hb); clear HB; have HB := n0_; clear n0_; (try clear hb); (try clear hb2); (try clear hk); (try clear hi)) | (go_at_call 19; (with_reducible refine (shade_FromHtml.calls (⟨#[60, 66, 62, 97, 60, 47, 66, 62, 60, 98, 114, 62, 98, 38, 97, 109, 112, 59]⟩ : ByteArray) t113 _ A10.out).mono ?_); rintro e w16 ⟨rfl, hb⟩; have n0_ := Aside0.mk (below_step (by repeat (first | (with_reducible first | exact HB.out | apply below_alloc | apply pw_below_drewN | apply below_drew1) | exact HB.out)) hb); clear HB; have HB := n0_; clear n0_; (try clear hb); (try clear hb2); (try clear hk); (try clear hi)) | (go_at_call 13; (with_reducible refine (shade_Seconds.calls 2 t114 _ A12.out).mono ?_); rintro e w17 ⟨rfl, hb⟩; have n0_ := Aside0.mk (below_step (by repeat (first | (with_reducible first | exact HB.out | apply below_alloc | apply pw_below_drewN | apply below_drew1) | exact HB.out)) hb); clear HB; have HB := n0_; clear n0_; (try clear hb); (try clear hb2); (try clear hk); (try clear hi)) | (go_at_call 15; (with_reducible refine (shade_Minutes.calls 125 t115 _ A14.out).mono ?_); rintro e w18 ⟨rfl, hb⟩; have n0_ := Aside0.mk (below_step (by repeat (first | (with_reducible first | exact HB.out | apply below_alloc | apply pw_below_drewN | apply below_drew1) | exact HB.out)) hb); clear HB; have HB := n0_; clear n0_; (try clear hb); (try clear hb2); (try clear hk); (try clear hi)))
                go_ret
                exact ⟨by first | rfl | (simp [errW_none, errW_some] <;> rfl) | (simp [*, errW_none, errW_some] <;> rfl), by repeat (first | (with_reducible first | exact HB.out | apply below_alloc | apply pw_below_drewN | apply below_drew1) | exact HB.out)⟩
              · rw [if_neg c13] at H
                have c13b0 : (t114 == 120) = false := beq_eq_false_iff_ne.mpr c13
                have c13b1 : (t114 != 120) = true := bne_iff_ne.mpr c13
                exact absurd (Option.some.inj H) (by rw [HT_.out]; exact Bool.false_ne_true)
            · rw [if_neg c11] at H
              have c11b0 : (t113.toList == ([97, 10, 98, 38] : List UInt8)) = false := beq_eq_false_iff_ne.mpr c11
              have c11b1 : (t113.toList != ([97, 10, 98, 38] : List UInt8)) = true := bne_iff_ne.mpr c11
              exact absurd (Option.some.inj H) (by rw [HT_.out]; exact Bool.false_ne_true)
          · rw [if_neg c9] at H
            have c9b0 : (t112.toList == ([97, 38, 108, 116, 59, 98, 60, 66, 82, 62] : List UInt8)) = false := beq_eq_false_iff_ne.mpr c9
            have c9b1 : (t112.toList != ([97, 38, 108, 116, 59, 98, 60, 66, 82, 62] : List UInt8)) = true := bne_iff_ne.mpr c9
            exact absurd (Option.some.inj H) (by rw [HT_.out]; exact Bool.false_ne_true)
        · rw [if_neg c7] at H
          have c7b0 : (t111 == 2) = false := beq_eq_false_iff_ne.mpr c7
          have c7b1 : (t111 != 2) = true := bne_iff_ne.mpr c7
          exact absurd (Option.some.inj H) (by rw [HT_.out]; exact Bool.false_ne_true)
    · replace c4 := Bool.eq_false_iff.mpr c4
      subst c4
      have H1 : (some false) = some r := by rw [if_neg (show ¬ (false = true) by decide)] at H; exact H
      clear H
      have H := H1
      clear H1
      exact absurd (Option.some.inj H) (by rw [HT_.out]; exact Bool.false_ne_true)
  · rw [if_neg c3] at H
    have c3b0 : (t107.toList == ([97, 119, 97, 121] : List UInt8)) = false := beq_eq_false_iff_ne.mpr c3
    have c3b1 : (t107.toList != ([97, 119, 97, 121] : List UInt8)) = true := bne_iff_ne.mpr c3
    exact absurd (Option.some.inj H) (by rw [HT_.out]; exact Bool.false_ne_true)

theorem wharflaw16_live.sure (k : Nat) (r : Bool) (h : wharflaw16_live.f k = some r) : r = true := by
  have h1 := at_rounds (g := fun k => wharflaw16_live.f k) (fun k => wharflaw16_live.mono k) (Nat.le_max_left 64 k) (by decide +kernel : wharflaw16_live.f 64 = some true)
  have h2 := at_rounds (g := fun k => wharflaw16_live.f k) (fun k => wharflaw16_live.mono k) (Nat.le_max_right 64 k) h
  rw [h1] at h2
  exact (Option.some.inj h2).symm
theorem wharflaw16_live.calls (k : Nat) (r : Bool) (w : World) (h : wharflaw16_live.f k = some r) :
    Calls Try.prog 8 #[] w fun e w' => e = .returned (.bool r) ∧ Below w.heap.size w w' := wharflaw16_live.callsT k r w ⟨wharflaw16_live.sure k r h⟩ h
end Go.Proofs.Ytaaoaikfkgbfhaa.H
