-- written by hp.py for this claim, out of the kit's printer and texts of my own
import Derived.Test.YtbeclnffcapfpaaHx0
namespace Go.Proofs.Ytbeclnffcapfpaa.H
open Go.RowKit Go.Proofs.YtbeclnffcapfpaaW.PrintWords Go.Proofs.YtbeclnffcapfpaaW.PrintLast Go.Proofs.YtbeclnffcapfpaaW.PrintMore
attribute [local go_sem] max2_int min2_int max_two min_two max_three min_three max_four min_four   -- for this text's walks alone
set_option linter.unusedVariables false
set_option linter.unusedSimpArgs false

def refPeekD (a0_7 a1 : Int) : Int := if wrap64 (a1 - a0_7) < 0 then 0 else if 4294967295 < wrap64 (a1 - a0_7) then 4294967295 else wrap64 (a1 - a0_7)
def refPeekN (a0_0 a0_6 D : Int) : Int := wrap64 (Int.tdiv (wrap64 ((wrap64 ((wrap64 (a0_0 - 1)) * a0_6)) + D)) a0_0)
def wharfref19_Peek.f (a0_0 : Int) (a0_1 : Int) (a0_2 : Int) (a0_3 : Int) (a0_4 : Int) (a0_5 : Int) (a0_6 : Int) (a0_7 : Int) (a1 : Int) : Option Int :=
  if a0_0 = 0 then none else some (if a0_5 < refPeekN a0_0 a0_6 (refPeekD a0_7 a1) then a0_5 else refPeekN a0_0 a0_6 (refPeekD a0_7 a1))
set_option maxRecDepth 100000 in
set_option maxHeartbeats 4000000 in
theorem wharfref19_Peek.calls (a0_0 : Int) (a0_1 : Int) (a0_2 : Int) (a0_3 : Int) (a0_4 : Int) (a0_5 : Int) (a0_6 : Int) (a0_7 : Int) (a1 : Int) (r : Int) (w : World) (h : wharfref19_Peek.f a0_0 a0_1 a0_2 a0_3 a0_4 a0_5 a0_6 a0_7 a1 = some r) :
    Calls Try.prog 15 #[.agg #[.int .i64 a0_0, .int .i64 a0_1, .int .i64 a0_2, .int .i64 a0_3, .int .i64 a0_4, .int .i64 a0_5, .int .i64 a0_6, .int .i64 a0_7], .int .i64 a1] w fun e w' => e = .returned (.int .i64 r) ∧ Below w.heap.size w w' := by
  unfold wharfref19_Peek.f at h
  by_cases c5 : a0_0 = 0
  · rw [if_pos c5] at h; cases h
  · rw [if_neg c5] at h
    have h' := Option.some.inj h
    have c5b0 : (a0_0 == 0) = false := beq_eq_false_iff_ne.mpr c5
    have c5b1 : (a0_0 != 0) = true := bne_iff_ne.mpr c5
    have HB : Below w.heap.size w (w.alloc (.cells #[.int .i64 a0_0, .int .i64 a0_1, .int .i64 a0_2, .int .i64 a0_3, .int .i64 a0_4, .int .i64 a0_5, .int .i64 a0_6, .int .i64 a0_7] 23)) := (Below.refl _ _).alloc (Nat.le_refl _) _
    have H' := Aside0.mk h'
    have HBA := Aside0.mk HB
    clear h h' HB
    unfold refPeekD at H'
    by_cases c0 : wrap64 (a1 - a0_7) < 0
    · rw [if_pos c0] at H'
      have d0 : decide (wrap64 (a1 - a0_7) < 0) = true := decide_eq_true c0
      unfold refPeekN at H'
      rw [show ∀ z : Int, z + 0 = z from fun z => Int.add_zero z] at H'
      clear c0
      go_enter Try.func15, Try.ntmps15
      go_wp2
      all_goals (go_ret; refine ⟨?_, HBA.out⟩; rw [← H'.out]; first | (rw [if_pos (by assumption)]; rfl) | (rw [if_neg (by assumption)]; rfl) | (rw [if_neg (Int.not_lt.mpr (by assumption))]; rfl))
    · rw [if_neg c0] at H'
      have d0 : decide (wrap64 (a1 - a0_7) < 0) = false := decide_eq_false c0
      clear c0
      by_cases c1 : 4294967295 < wrap64 (a1 - a0_7)
      · rw [if_pos c1] at H'
        have d1 : decide (4294967295 < wrap64 (a1 - a0_7)) = true := decide_eq_true c1
        unfold refPeekN at H'
        clear c1
        go_enter Try.func15, Try.ntmps15
        go_wp2
        all_goals (go_ret; refine ⟨?_, HBA.out⟩; rw [← H'.out]; first | (rw [if_pos (by assumption)]; rfl) | (rw [if_neg (by assumption)]; rfl) | (rw [if_neg (Int.not_lt.mpr (by assumption))]; rfl))
      · rw [if_neg c1] at H'
        have d1 : decide (4294967295 < wrap64 (a1 - a0_7)) = false := decide_eq_false c1
        unfold refPeekN at H'
        clear c1
        go_enter Try.func15, Try.ntmps15
        go_wp2
        all_goals (go_ret; refine ⟨?_, HBA.out⟩; rw [← H'.out]; first | (rw [if_pos (by assumption)]; rfl) | (rw [if_neg (by assumption)]; rfl) | (rw [if_neg (Int.not_lt.mpr (by assumption))]; rfl))

end Go.Proofs.Ytbeclnffcapfpaa.H
