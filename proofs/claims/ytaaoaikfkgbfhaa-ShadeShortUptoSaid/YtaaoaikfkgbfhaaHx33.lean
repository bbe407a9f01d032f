-- written by hp.py for this claim, out of the kit's printer and texts of my own
import Derived.Test.YtaaoaikfkgbfhaaHx0
import Derived.Test.YtaaoaikfkgbfhaaShelf
namespace Go.Proofs.Ytaaoaikfkgbfhaa.H
open Go.RowKit Go.Proofs.YtaaoaikfkgbfhaaW.PrintWords Go.Proofs.YtaaoaikfkgbfhaaW.PrintLast Go.Proofs.YtaaoaikfkgbfhaaW.PrintMore
attribute [local go_sem] max2_int min2_int max_two min_two max_three min_three max_four min_four   -- for this text's walks alone
set_option linter.unusedVariables false
set_option linter.unusedSimpArgs false

def shadeEnts : List (List UInt8 × Int) := [([38, 97, 109, 112, 59], 38), ([38, 108, 116, 59], 60), ([38, 103, 116, 59], 62), ([38, 113, 117, 111, 116, 59], 34), ([38, 110, 98, 115, 112, 59], 32)]
def shadeEnt (s : List UInt8) : List (List UInt8 × Int) → Int × Int
  | [] => (0, 0)
  | (m, c) :: l => if Lib.hasPrefix s m = true then (c, (m.length : Int)) else shadeEnt s l
def shade_entity.f (s : ByteArray) : Option (Int × Int) := some (shadeEnt s.data.toList shadeEnts)
theorem indexEnt0 (W : World) : (Instr.index 64 (.agg #[.string ⟨#[38, 97, 109, 112, 59]⟩, .string ⟨#[38, 108, 116, 59]⟩, .string ⟨#[38, 103, 116, 59]⟩, .string ⟨#[38, 113, 117, 111, 116, 59]⟩, .string ⟨#[38, 110, 98, 115, 112, 59]⟩]) (.int .i64 0)).run Try.prog W = .ok (.string ⟨#[38, 97, 109, 112, 59]⟩) W := by simp [Instr.index, run_underlying Try.underlying64, asIntOf, go_sem]
theorem indexEnt1 (W : World) : (Instr.index 64 (.agg #[.string ⟨#[38, 97, 109, 112, 59]⟩, .string ⟨#[38, 108, 116, 59]⟩, .string ⟨#[38, 103, 116, 59]⟩, .string ⟨#[38, 113, 117, 111, 116, 59]⟩, .string ⟨#[38, 110, 98, 115, 112, 59]⟩]) (.int .i64 1)).run Try.prog W = .ok (.string ⟨#[38, 108, 116, 59]⟩) W := by simp [Instr.index, run_underlying Try.underlying64, asIntOf, go_sem]
theorem indexEnt2 (W : World) : (Instr.index 64 (.agg #[.string ⟨#[38, 97, 109, 112, 59]⟩, .string ⟨#[38, 108, 116, 59]⟩, .string ⟨#[38, 103, 116, 59]⟩, .string ⟨#[38, 113, 117, 111, 116, 59]⟩, .string ⟨#[38, 110, 98, 115, 112, 59]⟩]) (.int .i64 2)).run Try.prog W = .ok (.string ⟨#[38, 103, 116, 59]⟩) W := by simp [Instr.index, run_underlying Try.underlying64, asIntOf, go_sem]
theorem indexEnt3 (W : World) : (Instr.index 64 (.agg #[.string ⟨#[38, 97, 109, 112, 59]⟩, .string ⟨#[38, 108, 116, 59]⟩, .string ⟨#[38, 103, 116, 59]⟩, .string ⟨#[38, 113, 117, 111, 116, 59]⟩, .string ⟨#[38, 110, 98, 115, 112, 59]⟩]) (.int .i64 3)).run Try.prog W = .ok (.string ⟨#[38, 113, 117, 111, 116, 59]⟩) W := by simp [Instr.index, run_underlying Try.underlying64, asIntOf, go_sem]
theorem indexEnt4 (W : World) : (Instr.index 64 (.agg #[.string ⟨#[38, 97, 109, 112, 59]⟩, .string ⟨#[38, 108, 116, 59]⟩, .string ⟨#[38, 103, 116, 59]⟩, .string ⟨#[38, 113, 117, 111, 116, 59]⟩, .string ⟨#[38, 110, 98, 115, 112, 59]⟩]) (.int .i64 4)).run Try.prog W = .ok (.string ⟨#[38, 110, 98, 115, 112, 59]⟩) W := by simp [Instr.index, run_underlying Try.underlying64, asIntOf, go_sem]
set_option maxHeartbeats 4000000 in
set_option maxRecDepth 100000 in
theorem shade_entity.calls (s : ByteArray) (r1 r2 : Int) (w : World) (h : shade_entity.f s = some (r1, r2)) :
    Calls Try.prog 33 #[.string s] w fun e w' => e = .returned (.tuple #[.int .u8 r1, .int .i64 r2]) ∧ Below w.heap.size w w' := by
  have HB0 := Aside0.mk (Below.refl w.heap.size w)
  have HA0 := Aside0.mk (Option.some.inj h)
  clear h
  go_enter Try.func33, Try.ntmps33
  go_wp2
  go_loopw [7] (fun v7 wr => ∃ i : Int, 0 ≤ i ∧ i ≤ 5 ∧ v7 = .int .i64 i ∧ Aside0 (shadeEnt s.data.toList (shadeEnts.drop i.toNat) = (r1, r2)) ∧ Aside0 (Below w.heap.size w wr)) (fun v7 _ => 5 - (intOf v7).toNat)
  case atStart => exact ⟨0, by omega, by omega, rfl, HA0, HB0⟩
  case round =>
    obtain ⟨i, hi0, hi, rfl, HA, HB⟩ := hrel
    clear HA0 HB0
    have hc : i = 0 ∨ i = 1 ∨ i = 2 ∨ i = 3 ∨ i = 4 ∨ i = 5 := by omega
    clear hi hi0
    rcases hc with rfl | rfl | rfl | rfl | rfl | rfl
    · have kx := fun W => indexEnt0 W
      have H : (if Lib.hasPrefix s.data.toList [38, 97, 109, 112, 59] = true then ((38 : Int), (5 : Int)) else shadeEnt s.data.toList (shadeEnts.drop 1)) = (r1, r2) := HA.out
      clear HA
      by_cases c : Lib.hasPrefix s.data.toList [38, 97, 109, 112, 59] = true
      · rw [if_pos c] at H
        obtain ⟨rfl, rfl⟩ := Prod.mk.inj H
        have hp := fun W => (Try.strings_HasPrefix s ⟨#[38, 97, 109, 112, 59]⟩ W)
        simp only [c] at hp
        go_wp2_with (go_at_call 41; refine (hp _).mono ?_; rintro e w' ⟨rfl, rfl⟩)
        go_ret2
        exact ⟨rfl, HB.out⟩
      · rw [if_neg c] at H
        have H' := Aside0.mk H
        clear H
        have hp := fun W => (Try.strings_HasPrefix s ⟨#[38, 97, 109, 112, 59]⟩ W)
        simp only [eq_false_of_ne_true c] at hp
        clear c
        go_wp2_with (go_at_call 41; refine (hp _).mono ?_; rintro e w' ⟨rfl, rfl⟩)
        go_roundw
        case rel => exact ⟨1, by omega, by omega, rfl, H', HB⟩
        case measure => simp [intOf]
    · have kx := fun W => indexEnt1 W
      have H : (if Lib.hasPrefix s.data.toList [38, 108, 116, 59] = true then ((60 : Int), (4 : Int)) else shadeEnt s.data.toList (shadeEnts.drop 2)) = (r1, r2) := HA.out
      clear HA
      by_cases c : Lib.hasPrefix s.data.toList [38, 108, 116, 59] = true
      · rw [if_pos c] at H
        obtain ⟨rfl, rfl⟩ := Prod.mk.inj H
        have hp := fun W => (Try.strings_HasPrefix s ⟨#[38, 108, 116, 59]⟩ W)
        simp only [c] at hp
        go_wp2_with (go_at_call 41; refine (hp _).mono ?_; rintro e w' ⟨rfl, rfl⟩)
        go_ret2
        exact ⟨rfl, HB.out⟩
      · rw [if_neg c] at H
        have H' := Aside0.mk H
        clear H
        have hp := fun W => (Try.strings_HasPrefix s ⟨#[38, 108, 116, 59]⟩ W)
        simp only [eq_false_of_ne_true c] at hp
        clear c
        go_wp2_with (go_at_call 41; refine (hp _).mono ?_; rintro e w' ⟨rfl, rfl⟩)
        go_roundw
        case rel => exact ⟨2, by omega, by omega, rfl, H', HB⟩
        case measure => simp [intOf]
    · have kx := fun W => indexEnt2 W
      have H : (if Lib.hasPrefix s.data.toList [38, 103, 116, 59] = true then ((62 : Int), (4 : Int)) else shadeEnt s.data.toList (shadeEnts.drop 3)) = (r1, r2) := HA.out
      clear HA
      by_cases c : Lib.hasPrefix s.data.toList [38, 103, 116, 59] = true
      · rw [if_pos c] at H
        obtain ⟨rfl, rfl⟩ := Prod.mk.inj H
        have hp := fun W => (Try.strings_HasPrefix s ⟨#[38, 103, 116, 59]⟩ W)
        simp only [c] at hp
        go_wp2_with (go_at_call 41; refine (hp _).mono ?_; rintro e w' ⟨rfl, rfl⟩)
        go_ret2
        exact ⟨rfl, HB.out⟩
      · rw [if_neg c] at H
        have H' := Aside0.mk H
        clear H
        have hp := fun W => (Try.strings_HasPrefix s ⟨#[38, 103, 116, 59]⟩ W)
        simp only [eq_false_of_ne_true c] at hp
        clear c
        go_wp2_with (go_at_call 41; refine (hp _).mono ?_; rintro e w' ⟨rfl, rfl⟩)
        go_roundw
        case rel => exact ⟨3, by omega, by omega, rfl, H', HB⟩
        case measure => simp [intOf]
    · have kx := fun W => indexEnt3 W
      have H : (if Lib.hasPrefix s.data.toList [38, 113, 117, 111, 116, 59] = true then ((34 : Int), (6 : Int)) else shadeEnt s.data.toList (shadeEnts.drop 4)) = (r1, r2) := HA.out
      clear HA
      by_cases c : Lib.hasPrefix s.data.toList [38, 113, 117, 111, 116, 59] = true
      · rw [if_pos c] at H
        obtain ⟨rfl, rfl⟩ := Prod.mk.inj H
        have hp := fun W => (Try.strings_HasPrefix s ⟨#[38, 113, 117, 111, 116, 59]⟩ W)
        simp only [c] at hp
        go_wp2_with (go_at_call 41; refine (hp _).mono ?_; rintro e w' ⟨rfl, rfl⟩)
        go_ret2
        exact ⟨rfl, HB.out⟩
      · rw [if_neg c] at H
        have H' := Aside0.mk H
        clear H
        have hp := fun W => (Try.strings_HasPrefix s ⟨#[38, 113, 117, 111, 116, 59]⟩ W)
        simp only [eq_false_of_ne_true c] at hp
        clear c
        go_wp2_with (go_at_call 41; refine (hp _).mono ?_; rintro e w' ⟨rfl, rfl⟩)
        go_roundw
        case rel => exact ⟨4, by omega, by omega, rfl, H', HB⟩
        case measure => simp [intOf]
    · have kx := fun W => indexEnt4 W
      have H : (if Lib.hasPrefix s.data.toList [38, 110, 98, 115, 112, 59] = true then ((32 : Int), (6 : Int)) else shadeEnt s.data.toList (shadeEnts.drop 5)) = (r1, r2) := HA.out
      clear HA
      by_cases c : Lib.hasPrefix s.data.toList [38, 110, 98, 115, 112, 59] = true
      · rw [if_pos c] at H
        obtain ⟨rfl, rfl⟩ := Prod.mk.inj H
        have hp := fun W => (Try.strings_HasPrefix s ⟨#[38, 110, 98, 115, 112, 59]⟩ W)
        simp only [c] at hp
        go_wp2_with (go_at_call 41; refine (hp _).mono ?_; rintro e w' ⟨rfl, rfl⟩)
        go_ret2
        exact ⟨rfl, HB.out⟩
      · rw [if_neg c] at H
        have H' := Aside0.mk H
        clear H
        have hp := fun W => (Try.strings_HasPrefix s ⟨#[38, 110, 98, 115, 112, 59]⟩ W)
        simp only [eq_false_of_ne_true c] at hp
        clear c
        go_wp2_with (go_at_call 41; refine (hp _).mono ?_; rintro e w' ⟨rfl, rfl⟩)
        go_roundw
        case rel => exact ⟨5, by omega, by omega, rfl, H', HB⟩
        case measure => simp [intOf]
    · obtain ⟨rfl, rfl⟩ := Prod.mk.inj (show ((0 : Int), (0 : Int)) = (r1, r2) from HA.out)
      go_wp2
      go_ret2
      exact ⟨rfl, HB.out⟩

end Go.Proofs.Ytaaoaikfkgbfhaa.H
