-- written by hp.py for this claim, out of the kit's printer and texts of my own
import Derived.Test.YtaaoaikfkgbfhaaHx0
import Derived.Test.YtaaoaikfkgbfhaaShelf
namespace Go.Proofs.Ytaaoaikfkgbfhaa.H
open Go.RowKit Go.Proofs.YtaaoaikfkgbfhaaW.PrintWords Go.Proofs.YtaaoaikfkgbfhaaW.PrintLast Go.Proofs.YtaaoaikfkgbfhaaW.PrintMore
attribute [local go_sem] max2_int min2_int max_two min_two max_three min_three max_four min_four   -- for this text's walks alone
set_option linter.unusedVariables false
set_option linter.unusedSimpArgs false

def cutAt (s : ByteArray) (i : Int) : Option (ByteArray × ByteArray × Bool) :=
  if 0 ≤ i then (if i + 1 ≤ (s.size : Int) then (if i + 1 < 9223372036854775808 then some (s.extract 0 i.toNat, s.extract (i + 1).toNat s.size, true) else none) else none) else some (s, ⟨#[]⟩, false)
def stringslite_Cut.f (s sep : ByteArray) : Option (ByteArray × ByteArray × Bool) :=
  match sep with
  | ⟨⟨[c]⟩⟩ => cutAt s (Lib.indexByte s.data.toList c)
  | _ => none
set_option maxHeartbeats 4000000 in
set_option maxRecDepth 100000 in
theorem stringslite_Cut.calls (s sep : ByteArray) (r1 r2 : ByteArray) (r3 : Bool) (w : World) (h : stringslite_Cut.f s sep = some (r1, r2, r3)) :
    Calls Try.prog 40 #[.string s, .string sep] w fun e w' => e = .returned (.tuple #[.string r1, .string r2, .bool r3]) ∧ Drawn0 w w' := by
  obtain ⟨c, rfl⟩ : ∃ c, sep = ⟨⟨[c]⟩⟩ := by
    unfold stringslite_Cut.f at h
    split at h
    · exact ⟨_, rfl⟩
    · cases h
  have H : cutAt s (Lib.indexByte s.data.toList c) = some (r1, r2, r3) := h
  clear h
  have hi := fun W => Try.stringslite_Index_one s c W
  generalize Lib.indexByte s.data.toList c = i at hi H
  unfold cutAt at H
  by_cases c1 : 0 ≤ i
  · rw [if_pos c1] at H
    by_cases c2 : i + 1 ≤ (s.size : Int)
    · rw [if_pos c2] at H
      by_cases c3 : i + 1 < 9223372036854775808
      · rw [if_pos c3] at H
        have hw : IntKind.i64.wrap (i + 1) = i + 1 := wrap_small _ (by omega) c3
        have mixed : Try.prog.follows Departure.mixedOrders = true := by kernel_rfl
        have d1 : decide (0 ≤ i) = true := decide_eq_true c1
        have e2 : i ≤ (s.size : Int) := by omega
        have e3 : 0 ≤ i + 1 := by omega
        obtain ⟨rfl, rfl, rfl⟩ := by simpa only [Option.some.injEq, Prod.mk.injEq] using H
        clear H c3
        go_enter Try.func40, Try.ntmps40
        go_wp2_with (go_at_call 44; refine (hi _).mono ?_; rintro e w' ⟨rfl, rfl⟩)
        go_region_o
        go_wp2
        go_ret3
        exact ⟨rfl, by repeat (first | exact Drawn0.refl _ | apply Drawn0.step)⟩
      · rw [if_neg c3] at H
        cases H
    · rw [if_neg c2] at H
      cases H
  · rw [if_neg c1] at H
    have d1 : decide (0 ≤ i) = false := decide_eq_false c1
    obtain ⟨rfl, rfl, rfl⟩ := by simpa only [Option.some.injEq, Prod.mk.injEq] using H
    clear H c1
    go_enter Try.func40, Try.ntmps40
    go_wp2_with (go_at_call 44; refine (hi _).mono ?_; rintro e w' ⟨rfl, rfl⟩)
    go_ret3
    exact ⟨rfl, by repeat (first | exact Drawn0.refl _ | apply Drawn0.step)⟩

end Go.Proofs.Ytaaoaikfkgbfhaa.H
