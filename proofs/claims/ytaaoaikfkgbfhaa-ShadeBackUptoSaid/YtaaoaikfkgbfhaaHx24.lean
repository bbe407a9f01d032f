-- written by hp.py for this claim, out of the kit's printer and texts of my own
import Derived.Test.YtaaoaikfkgbfhaaHx0
namespace Go.Proofs.Ytaaoaikfkgbfhaa.H
open Go.RowKit Go.Proofs.YtaaoaikfkgbfhaaW.PrintWords Go.Proofs.YtaaoaikfkgbfhaaW.PrintLast Go.Proofs.YtaaoaikfkgbfhaaW.PrintMore
attribute [local go_sem] max2_int min2_int max_two min_two max_three min_three max_four min_four   -- for this text's walks alone
set_option linter.unusedVariables false
set_option linter.unusedSimpArgs false

def shadeWritten (c : Int) : ByteArray :=
  if c = 38 then ⟨#[38, 97, 109, 112, 59]⟩ else if c = 60 then ⟨#[38, 108, 116, 59]⟩ else if c = 62 then ⟨#[38, 103, 116, 59]⟩ else if c = 34 then ⟨#[38, 113, 117, 111, 116, 59]⟩ else if c = 10 then ⟨#[60, 66, 82, 62]⟩ else Utf8.encode c
def shade_written.f (c : Int) : Option ByteArray := some (shadeWritten c)
set_option maxHeartbeats 1600000 in
theorem shade_written.calls (c : Int) (r : ByteArray) (w : World) (h : shade_written.f c = some r) :
    Calls Try.prog 24 #[.int .i32 c] w fun e w' => e = .returned (.string r) ∧ Drawn0 w w' := by
  unfold shade_written.f at h
  obtain rfl := Option.some.inj h
  clear h
  unfold shadeWritten
  by_cases c1 : c = 38
  · rw [if_pos c1]
    have d1 : (c == 38) = true := beq_iff_eq.mpr c1
    clear c1
    go_enter Try.func24, Try.ntmps24
    go_wp2
    go_ret
    exact ⟨rfl, by repeat (first | exact Drawn0.refl _ | apply Drawn0.step)⟩
  rw [if_neg c1]
  have d1 : (c == 38) = false := beq_eq_false_iff_ne.mpr c1
  clear c1
  by_cases c2 : c = 60
  · rw [if_pos c2]
    have d2 : (c == 60) = true := beq_iff_eq.mpr c2
    clear c2
    go_enter Try.func24, Try.ntmps24
    go_wp2
    go_ret
    exact ⟨rfl, by repeat (first | exact Drawn0.refl _ | apply Drawn0.step)⟩
  rw [if_neg c2]
  have d2 : (c == 60) = false := beq_eq_false_iff_ne.mpr c2
  clear c2
  by_cases c3 : c = 62
  · rw [if_pos c3]
    have d3 : (c == 62) = true := beq_iff_eq.mpr c3
    clear c3
    go_enter Try.func24, Try.ntmps24
    go_wp2
    go_ret
    exact ⟨rfl, by repeat (first | exact Drawn0.refl _ | apply Drawn0.step)⟩
  rw [if_neg c3]
  have d3 : (c == 62) = false := beq_eq_false_iff_ne.mpr c3
  clear c3
  by_cases c4 : c = 34
  · rw [if_pos c4]
    have d4 : (c == 34) = true := beq_iff_eq.mpr c4
    clear c4
    go_enter Try.func24, Try.ntmps24
    go_wp2
    go_ret
    exact ⟨rfl, by repeat (first | exact Drawn0.refl _ | apply Drawn0.step)⟩
  rw [if_neg c4]
  have d4 : (c == 34) = false := beq_eq_false_iff_ne.mpr c4
  clear c4
  by_cases c5 : c = 10
  · rw [if_pos c5]
    have d5 : (c == 10) = true := beq_iff_eq.mpr c5
    clear c5
    go_enter Try.func24, Try.ntmps24
    go_wp2
    go_ret
    exact ⟨rfl, by repeat (first | exact Drawn0.refl _ | apply Drawn0.step)⟩
  rw [if_neg c5]
  have d5 : (c == 10) = false := beq_eq_false_iff_ne.mpr c5
  clear c5
  have kc := fun (W : World) => run_convert_int_string (P := Try.prog) W 21 9 .i32 c (by rw [Try.underlying21]; rfl) Try.underlying9
  go_enter Try.func24, Try.ntmps24
  go_wp2
  go_ret
  exact ⟨rfl, by repeat (first | exact Drawn0.refl _ | apply Drawn0.step)⟩

end Go.Proofs.Ytaaoaikfkgbfhaa.H
