-- written by hp.py for this claim, out of the kit's printer and texts of my own
import Derived.Test.YtaaoaikfkgbfhaaHx0
namespace Go.Proofs.Ytaaoaikfkgbfhaa.H
open Go.RowKit Go.Proofs.YtaaoaikfkgbfhaaW.PrintWords Go.Proofs.YtaaoaikfkgbfhaaW.PrintLast Go.Proofs.YtaaoaikfkgbfhaaW.PrintMore
attribute [local go_sem] max2_int min2_int max_two min_two max_three min_three max_four min_four   -- for this text's walks alone
set_option linter.unusedVariables false
set_option linter.unusedSimpArgs false

/-! ### wharfref16_mark: function 29 -/
def wharfref16_mark.f (a0 : ByteArray) : Option (ByteArray) := if a0.toList = ([38] : List UInt8) then (some (⟨#[38, 97, 109, 112, 59]⟩ : ByteArray)) else (if a0.toList = ([60] : List UInt8) then (some (⟨#[38, 108, 116, 59]⟩ : ByteArray)) else (if a0.toList = ([62] : List UInt8) then (some (⟨#[38, 103, 116, 59]⟩ : ByteArray)) else (if a0.toList = ([34] : List UInt8) then (some (⟨#[38, 113, 117, 111, 116, 59]⟩ : ByteArray)) else (if a0.toList = ([10] : List UInt8) then (some (⟨#[60, 66, 82, 62]⟩ : ByteArray)) else (some a0)))))
set_option maxHeartbeats 8000000 in
set_option maxRecDepth 100000 in
theorem wharfref16_mark.calls (a0 : ByteArray) (r : ByteArray) (w : World) (h : wharfref16_mark.f a0 = some r) :
    Calls Try.prog 29 #[.string a0] w fun e w' => e = .returned (.string r) ∧ Drawn0 w w' := by
  have H : (if a0.toList = ([38] : List UInt8) then (some (⟨#[38, 97, 109, 112, 59]⟩ : ByteArray)) else (if a0.toList = ([60] : List UInt8) then (some (⟨#[38, 108, 116, 59]⟩ : ByteArray)) else (if a0.toList = ([62] : List UInt8) then (some (⟨#[38, 103, 116, 59]⟩ : ByteArray)) else (if a0.toList = ([34] : List UInt8) then (some (⟨#[38, 113, 117, 111, 116, 59]⟩ : ByteArray)) else (if a0.toList = ([10] : List UInt8) then (some (⟨#[60, 66, 82, 62]⟩ : ByteArray)) else (some a0)))))) = some r := h
  clear h
  by_cases c2 : a0.toList = ([38] : List UInt8)
  · rw [if_pos c2] at H
    have c2b0 : (a0.toList == ([38] : List UInt8)) = true := beq_iff_eq.mpr c2
    have c2b1 : (a0.toList != ([38] : List UInt8)) = false := bne_eq_false_iff_eq.mpr c2
    clear c2
    obtain rfl := Option.some.inj H
    go_enter Try.func29, Try.ntmps29
    go_wp2
    go_ret
    exact ⟨by first | rfl | (simp; done) | (simp [*]; done), by repeat (first | exact Drawn0.refl _ | apply Drawn0.step)⟩
  · rw [if_neg c2] at H
    have c2b0 : (a0.toList == ([38] : List UInt8)) = false := beq_eq_false_iff_ne.mpr c2
    have c2b1 : (a0.toList != ([38] : List UInt8)) = true := bne_iff_ne.mpr c2
    by_cases c3 : a0.toList = ([60] : List UInt8)
    · rw [if_pos c3] at H
      have c3b0 : (a0.toList == ([60] : List UInt8)) = true := beq_iff_eq.mpr c3
      have c3b1 : (a0.toList != ([60] : List UInt8)) = false := bne_eq_false_iff_eq.mpr c3
      clear c3
      obtain rfl := Option.some.inj H
      go_enter Try.func29, Try.ntmps29
      go_wp2
      go_ret
      exact ⟨by first | rfl | (simp; done) | (simp [*]; done), by repeat (first | exact Drawn0.refl _ | apply Drawn0.step)⟩
    · rw [if_neg c3] at H
      have c3b0 : (a0.toList == ([60] : List UInt8)) = false := beq_eq_false_iff_ne.mpr c3
      have c3b1 : (a0.toList != ([60] : List UInt8)) = true := bne_iff_ne.mpr c3
      by_cases c4 : a0.toList = ([62] : List UInt8)
      · rw [if_pos c4] at H
        have c4b0 : (a0.toList == ([62] : List UInt8)) = true := beq_iff_eq.mpr c4
        have c4b1 : (a0.toList != ([62] : List UInt8)) = false := bne_eq_false_iff_eq.mpr c4
        clear c4
        obtain rfl := Option.some.inj H
        go_enter Try.func29, Try.ntmps29
        go_wp2
        go_ret
        exact ⟨by first | rfl | (simp; done) | (simp [*]; done), by repeat (first | exact Drawn0.refl _ | apply Drawn0.step)⟩
      · rw [if_neg c4] at H
        have c4b0 : (a0.toList == ([62] : List UInt8)) = false := beq_eq_false_iff_ne.mpr c4
        have c4b1 : (a0.toList != ([62] : List UInt8)) = true := bne_iff_ne.mpr c4
        by_cases c5 : a0.toList = ([34] : List UInt8)
        · rw [if_pos c5] at H
          have c5b0 : (a0.toList == ([34] : List UInt8)) = true := beq_iff_eq.mpr c5
          have c5b1 : (a0.toList != ([34] : List UInt8)) = false := bne_eq_false_iff_eq.mpr c5
          clear c5
          obtain rfl := Option.some.inj H
          go_enter Try.func29, Try.ntmps29
          go_wp2
          go_ret
          exact ⟨by first | rfl | (simp; done) | (simp [*]; done), by repeat (first | exact Drawn0.refl _ | apply Drawn0.step)⟩
        · rw [if_neg c5] at H
          have c5b0 : (a0.toList == ([34] : List UInt8)) = false := beq_eq_false_iff_ne.mpr c5
          have c5b1 : (a0.toList != ([34] : List UInt8)) = true := bne_iff_ne.mpr c5
          by_cases c6 : a0.toList = ([10] : List UInt8)
          · rw [if_pos c6] at H
            have c6b0 : (a0.toList == ([10] : List UInt8)) = true := beq_iff_eq.mpr c6
            have c6b1 : (a0.toList != ([10] : List UInt8)) = false := bne_eq_false_iff_eq.mpr c6
            clear c6
            obtain rfl := Option.some.inj H
            go_enter Try.func29, Try.ntmps29
            go_wp2
            go_ret
            exact ⟨by first | rfl | (simp; done) | (simp [*]; done), by repeat (first | exact Drawn0.refl _ | apply Drawn0.step)⟩
          · rw [if_neg c6] at H
            have c6b0 : (a0.toList == ([10] : List UInt8)) = false := beq_eq_false_iff_ne.mpr c6
            have c6b1 : (a0.toList != ([10] : List UInt8)) = true := bne_iff_ne.mpr c6
            obtain rfl := Option.some.inj H
            go_enter Try.func29, Try.ntmps29
            go_wp2
            go_ret
            exact ⟨by first | rfl | (simp; done) | (simp [*]; done), by repeat (first | exact Drawn0.refl _ | apply Drawn0.step)⟩

end Go.Proofs.Ytaaoaikfkgbfhaa.H
