-- written by hp.py for this claim, out of the kit's printer and texts of my own
import Derived.Test.YtlcnhmigbdaajaaHx0
import Derived.Test.YtlcnhmigbdaajaaHx20001
import Derived.Test.YtlcnhmigbdaajaaHx20005
import Derived.Test.YtlcnhmigbdaajaaHx20007
import Derived.Test.YtlcnhmigbdaajaaHx20007
import Derived.Lib.Hide
import Derived.Deep.LoopGhost
import Derived.Deep.DeepCutAuto
import Derived.StillTailTactics
namespace Go.Proofs.Ytlcnhmigbdaajaa.H
open Go.RowKit Go.Proofs.YtlcnhmigbdaajaaW.PrintWords Go.Proofs.YtlcnhmigbdaajaaW.PrintLast Go.Proofs.YtlcnhmigbdaajaaW.PrintMore
attribute [local go_sem] max2_int min2_int max_two min_two max_three min_three max_four min_four   -- for this text's walks alone
set_option linter.unusedVariables false
set_option linter.unusedSimpArgs false

/-- Add: what it answers, the alarms then, the number -/
def alAdd (l : List S58) (last : Int) (at_ : Int) (key : ByteArray) : Int × Int × List S58 × Int :=
  if 256 < key.size ∨ at_ < 0 then (0, 2, l, last) else if 1000 ≤ l.length then (0, 5, l, last) else (last + 1, 0, alPushed l ⟨at_, last + 1, key⟩, last + 1)
set_option maxRecDepth 100000 in
set_option maxHeartbeats 1000000 in
theorem add_calls (B g : Nat) (l : List S58) (last : Int) (v : Value) (at_ : Int) (key : ByteArray) (W : World) (h : TimAt B W g l last v) (h0 : 0 ≤ last) (h1 : last ≤ 1000000000) (hB : B ≤ W.heap.size) :
    Calls Try.prog 10 #[.pointer (some ⟨g, 0, none⟩), .int .i64 at_, .string key] W fun e W' => e = .returned (.tuple #[.int .i64 (alAdd l last at_ key).1, .int .i64 (alAdd l last at_ key).2.1]) ∧ TimIs B g W (alAdd l last at_ key).2.2.1 (alAdd l last at_ key).2.2.2 W' := by
  by_cases c1 : 256 < key.size
  · have e : alAdd l last at_ key = (0, 2, l, last) := if_pos (.inl c1)
    rw [e]
    have HA := Aside0.mk h
    have d1 : decide (256 < key.size) = true := decide_eq_true c1
    clear h e
    go_enter Try.func10, Try.ntmps10
    go_wp2
    go_ret2
    exact ⟨rfl, _, HA.out, TimK.refl _ _⟩
  by_cases c2 : at_ < 0
  · have e : alAdd l last at_ key = (0, 2, l, last) := if_pos (.inr c2)
    rw [e]
    have HA := Aside0.mk h
    have d1 : decide (256 < key.size) = false := decide_eq_false c1
    have d2 : decide (at_ < 0) = true := decide_eq_true c2
    clear h e
    go_enter Try.func10, Try.ntmps10
    go_wp2
    go_ret2
    exact ⟨rfl, _, HA.out, TimK.refl _ _⟩
  obtain ⟨A, c, rfl⟩ := own_slice h.own
  have q0 := h.cell
  by_cases c3 : 1000 ≤ l.length
  · have e : alAdd l last at_ key = (0, 5, l, last) := (if_neg (by omega)).trans (if_pos c3)
    rw [e]
    have HA := Aside0.mk h
    have d1 : decide (256 < key.size) = false := decide_eq_false c1
    have d2 : decide (at_ < 0) = false := decide_eq_false c2
    have d3 : decide (1000 ≤ l.length) = true := decide_eq_true c3
    clear h e
    go_enter Try.func10, Try.ntmps10
    go_wp2
    go_ret2
    exact ⟨rfl, _, HA.out, TimK.refl _ _⟩
  · have e : alAdd l last at_ key = (last + 1, 0, alPushed l ⟨at_, last + 1, key⟩, last + 1) := (if_neg (by omega)).trans (if_neg c3)
    rw [e]
    have q1 := h.cell1
    have f1 := h.free 1
    have h2 : TimAt B (W.setCell ⟨g, 1, none⟩ (.int .i64 (last + 1))) g l (last + 1) (.slice A l.length c) := ⟨blk_set h.blk 1 _, own_setCell h.own h.ne _, h.base⟩
    have hk2 : TimK B W (W.setCell ⟨g, 1, none⟩ (.int .i64 (last + 1))) := TimK.set_at h.blk h.base 1 _
    have kP := heapPush_calls B g l (last + 1) (.slice A l.length c) ⟨at_, last + 1, key⟩ _ (h2.drewN 1) (by omega) (by simpa [World.setCell] using hB)
    have d1 : decide (256 < key.size) = false := decide_eq_false c1
    have d2 : decide (at_ < 0) = false := decide_eq_false c2
    have d3 : decide (1000 ≤ l.length) = false := decide_eq_false c3
    have HK2 := Aside0.mk hk2
    have q3 := h2.cell1
    clear h e h2 hk2
    go_enter Try.func10, Try.ntmps10
    go_upto_region 8 with (fail)
    generalize W.setCell ⟨g, 1, none⟩ (.int .i64 (last + 1)) = W1 at *
    refine wp_region_still_tail 12 (by kernel_rfl) (by kernel_rfl) ?_
    simp only [List.take_succ_cons, List.take_zero, List.drop_succ_cons, List.drop_zero]
    repeat (first | still_step)
    try refine wpStill_nil ?_
    change wpList _ _ _ _ _ (World.drew _)
    go_wp2_with (go_at_call 23; refine kP.mono ?_; rintro e w1 ⟨rfl, r, c, hT, hK⟩; have HT := Aside0.mk hT; have HK := Aside0.mk hK; have q2 := HT.out.cell1; clear kP hT hK)
    go_ret2
    exact ⟨rfl, _, HT.out, (HK2.out.drewN 1).trans HK.out⟩

end Go.Proofs.Ytlcnhmigbdaajaa.H
