-- written by hp.py for this claim, out of the kit's printer and texts of my own
import Derived.Test.YthncdeeakhilfaaHx0
import Derived.Test.YthncdeeakhilfaaHx10
import Derived.Test.YthncdeeakhilfaaHx15
import Derived.Test.YthncdeeakhilfaaHx18
import Derived.Test.YthncdeeakhilfaaHx20001
import Derived.Test.YthncdeeakhilfaaHx20002
import Derived.Test.YthncdeeakhilfaaHx20003
import Derived.Test.YthncdeeakhilfaaHx20003
import Derived.Test.YthncdeeakhilfaaHx18
import Derived.Test.YthncdeeakhilfaaHx15
import Derived.Test.YthncdeeakhilfaaHx10
import Derived.Deep.QuietTactic
import Derived.BigQuiet
import Derived.WalkKit
namespace Go.Proofs.Ythncdeeakhilfaa.H
open Go.RowKit Go.Proofs.YthncdeeakhilfaaW.PrintWords Go.Proofs.YthncdeeakhilfaaW.PrintLast Go.Proofs.YthncdeeakhilfaaW.PrintMore
attribute [local go_sem] max2_int min2_int max_two min_two max_three min_three max_four min_four   -- for this text's walks alone
set_option linter.unusedVariables false
set_option linter.unusedSimpArgs false

/-- what the law answers where it is true (else none) -/
def flapOrderEnd (F1 F2 F3 : FlapSt × List S37) (skip : Int) : Option Bool :=
  if F1.2.length = 1 then
    if skip = 1 then (if F2.2.length = 1 ∧ F2.1.err = 0 then some true else none)
    else (if F2.2.length = 0 ∧ F2.1.err = 121 ∧ F3.2.length = 0 ∧ flapLeft F3.1 = 0 then some true else none)
  else none
def wharflaw12_FlapOrder.f (k : Nat) (ch seq : Int) (data : ByteArray) (skip : Int) (more : ByteArray) : Option Bool :=
  if wrap64 ((data.size : Int) + (more.size : Int)) > 30000 then some true else if skip < 0 then some true else if 65535 < skip then some true else if seq < 0 then some true else if 65535 < seq then some true
  else (flap_Put.f k ch seq data).bind fun p => (flap_Put.f k ch ((seq + skip) % 65536) data).bind fun q =>
    if 0 ≤ p.2 ∧ p.2 ≤ 1000 ∧ 0 ≤ q.2 ∧ q.2 ≤ 1000 ∧ p.1.size ≤ 1000000 ∧ q.1.size ≤ 1000000 ∧ more.size ≤ 1000000 then
      if p.2 + q.2 = 0 then flapOrderEnd (flapRun (Bytes.L p.1) flapNew []) (flapRun (Bytes.L q.1) (flapRun (Bytes.L p.1) flapNew []).1 []) (flapRun (Bytes.L more) (flapRun (Bytes.L q.1) (flapRun (Bytes.L p.1) flapNew []).1 []).1 []) skip
      else some true
    else none
set_option maxRecDepth 100000 in
set_option maxHeartbeats 4000000 in
theorem wharflaw12_FlapOrder.calls (k : Nat) (ch seq : Int) (data : ByteArray) (skip : Int) (more : ByteArray) (r : Bool) (w : World) (h : wharflaw12_FlapOrder.f k ch seq data skip more = some r) :
    Calls Try.prog 6 #[.agg #[.int .i64 ch, .int .i64 seq, .string data], .int .i64 skip, .string more] w fun e w' => e = .returned (.bool r) ∧ Below w.heap.size w w' := by
  unfold wharflaw12_FlapOrder.f at h
  have kl := fun W => wharflaw12_live.calls true W rfl
  have kn := fun a W => wharflaw12_num.calls a a W rfl
  by_cases g0 : wrap64 ((data.size : Int) + (more.size : Int)) > 30000
  · rw [if_pos g0] at h
    obtain rfl := Option.some.inj h
    have d0 : decide (30000 < wrap64 ((data.size : Int) + (more.size : Int))) = true := decide_eq_true g0
    clear h g0
    go_enter Try.func6, Try.ntmps6
    go_wp2_with (go_at_call 10; refine (kl _).mono ?_; rintro e w9 ⟨rfl, hb9⟩)
    go_ret
    exact ⟨rfl, below_step (by repeat (first | exact (Below.refl _ _).alloc (Nat.le_refl _) _ | refine pw_below_drewN ?_ _)) hb9⟩
  rw [if_neg g0] at h
  have d0 : decide (30000 < wrap64 ((data.size : Int) + (more.size : Int))) = false := decide_eq_false g0
  by_cases g1 : skip < 0
  · rw [if_pos g1] at h
    obtain rfl := Option.some.inj h
    have d1 : decide (skip < 0) = true := decide_eq_true g1
    clear h g0 g1
    go_enter Try.func6, Try.ntmps6
    go_wp2_with (go_at_call 10; refine (kl _).mono ?_; rintro e w9 ⟨rfl, hb9⟩)
    go_ret
    exact ⟨rfl, below_step (by repeat (first | exact (Below.refl _ _).alloc (Nat.le_refl _) _ | refine pw_below_drewN ?_ _)) hb9⟩
  rw [if_neg g1] at h
  have d1 : decide (skip < 0) = false := decide_eq_false g1
  by_cases g2 : 65535 < skip
  · rw [if_pos g2] at h
    obtain rfl := Option.some.inj h
    have d2 : decide (65535 < skip) = true := decide_eq_true g2
    clear h g0 g1 g2
    go_enter Try.func6, Try.ntmps6
    go_wp2_with (go_at_call 10; refine (kl _).mono ?_; rintro e w9 ⟨rfl, hb9⟩)
    go_ret
    exact ⟨rfl, below_step (by repeat (first | exact (Below.refl _ _).alloc (Nat.le_refl _) _ | refine pw_below_drewN ?_ _)) hb9⟩
  rw [if_neg g2] at h
  have d2 : decide (65535 < skip) = false := decide_eq_false g2
  by_cases g3 : seq < 0
  · rw [if_pos g3] at h
    obtain rfl := Option.some.inj h
    have d3 : decide (seq < 0) = true := decide_eq_true g3
    clear h g0 g1 g2 g3
    go_enter Try.func6, Try.ntmps6
    go_wp2_with (go_at_call 10; refine (kl _).mono ?_; rintro e w9 ⟨rfl, hb9⟩)
    go_ret
    exact ⟨rfl, below_step (by repeat (first | exact (Below.refl _ _).alloc (Nat.le_refl _) _ | refine pw_below_drewN ?_ _)) hb9⟩
  rw [if_neg g3] at h
  have d3 : decide (seq < 0) = false := decide_eq_false g3
  by_cases g4 : 65535 < seq
  · rw [if_pos g4] at h
    obtain rfl := Option.some.inj h
    have d4 : decide (65535 < seq) = true := decide_eq_true g4
    clear h g0 g1 g2 g3 g4
    go_enter Try.func6, Try.ntmps6
    go_wp2_with (go_at_call 10; refine (kl _).mono ?_; rintro e w9 ⟨rfl, hb9⟩)
    go_ret
    exact ⟨rfl, below_step (by repeat (first | exact (Below.refl _ _).alloc (Nat.le_refl _) _ | refine pw_below_drewN ?_ _)) hb9⟩
  rw [if_neg g4] at h
  have d4 : decide (65535 < seq) = false := decide_eq_false g4
  replace h := Option.bind_eq_some_iff.mp h
  obtain ⟨⟨p1, p2⟩, hp, h⟩ := h
  replace h := Option.bind_eq_some_iff.mp h
  obtain ⟨⟨q1, q2⟩, hq, h⟩ := h
  dsimp only at h
  by_cases c1 : 0 ≤ p2 ∧ p2 ≤ 1000 ∧ 0 ≤ q2 ∧ q2 ≤ 1000 ∧ p1.size ≤ 1000000 ∧ q1.size ≤ 1000000 ∧ more.size ≤ 1000000
  · rw [if_pos c1] at h
    obtain ⟨c1, c2, c3, c4, c5, c6, c7⟩ := c1
    have kp := fun W => flap_Put.calls k ch seq data p1 p2 W hp
    have kq := fun W => flap_Put.calls k ch ((seq + skip) % 65536) data q1 q2 W hq
    have m0 : 0 ≤ skip := by omega
    have m1 : skip ≤ 65535 := by omega
    have m2 : 0 ≤ seq := by omega
    have m3 : seq ≤ 65535 := by omega
    clear g0 g1 g2 g3 g4 hp hq
    by_cases c8 : p2 + q2 = 0
    · rw [if_pos c8] at h
      obtain rfl : p2 = 0 := by omega
      obtain rfl : q2 = 0 := by omega
      have HS1 := Aside0.mk c5
      have HS2 := Aside0.mk c6
      have HS3 := Aside0.mk c7
      have HO1 := Aside0.mk (flapRun_ok (Bytes.L p1) flapNew [] flapNew_ok)
      have HO2 := Aside0.mk (flapRun_ok (Bytes.L q1) (flapRun (Bytes.L p1) flapNew []).1 [] HO1.out)
      clear c1 c2 c3 c4 c5 c6 c7 c8
      have kF1 := fun W g v (hA : FlapAt w.heap.size W g flapNew v) (hB : w.heap.size ≤ W.heap.size) => flapFeed_calls w.heap.size g flapNew v p1 W hA flapNew_ok HS1.out hB
      have kF2 := fun W g v (hA : FlapAt w.heap.size W g (flapRun (Bytes.L p1) flapNew []).1 v) (hB : w.heap.size ≤ W.heap.size) => flapFeed_calls w.heap.size g (flapRun (Bytes.L p1) flapNew []).1 v q1 W hA HO1.out HS2.out hB
      have kF3 := fun W g v (hA : FlapAt w.heap.size W g (flapRun (Bytes.L q1) (flapRun (Bytes.L p1) flapNew []).1 []).1 v) (hB : w.heap.size ≤ W.heap.size) => flapFeed_calls w.heap.size g (flapRun (Bytes.L q1) (flapRun (Bytes.L p1) flapNew []).1 []).1 v more W hA HO2.out HS3.out hB
      generalize flapRun (Bytes.L more) (flapRun (Bytes.L q1) (flapRun (Bytes.L p1) flapNew []).1 []).1 [] = F3 at *
      generalize flapRun (Bytes.L q1) (flapRun (Bytes.L p1) flapNew []).1 [] = F2 at *
      generalize flapRun (Bytes.L p1) flapNew [] = F1 at *
      unfold flapOrderEnd at h
      by_cases l1 : F1.2.length = 1
      · rw [if_pos l1] at h
        go_enter Try.func6, Try.ntmps6
        go_upto_region 4 with (go_at_call 18; refine (kp _).mono ?_; rintro e w1 ⟨rfl, hb1⟩)
        have HX := Aside0.mk (blk_below (heap_alloc_new w (.cells #[.int .i64 ch, .int .i64 seq, .string data] 37)) hb1)
        have HB1 := Aside0.mk (below_step ((Below.refl w.heap.size w).alloc (Nat.le_refl _) _) hb1)
        have x0 : w1.cell? ⟨w.heap.size, 0, none⟩ = some (.int .i64 ch) := (blk_cell HX.out 0).trans rfl
        have x1 : w1.cell? ⟨w.heap.size, 1, none⟩ = some (.int .i64 seq) := (blk_cell HX.out 1).trans rfl
        have x2 : w1.cell? ⟨w.heap.size, 2, none⟩ = some (.string data) := (blk_cell HX.out 2).trans rfl
        have y1 : ∀ o, (w1.alloc o).cell? ⟨w.heap.size, 1, none⟩ = some (.int .i64 seq) := fun o => (blk_cell (blk_alloc HX.out o) 1).trans rfl
        clear hb1
        go_upto_region 10 with (first | (go_at_call 18; refine (kq _).mono ?_; rintro e w2 ⟨rfl, hb2⟩; have HB2 := Aside0.mk (below_step (HB1.out.alloc HB1.out.size _) hb2); clear hb2) | (go_at_call 11; refine (flapNew_calls w.heap.size _ HB2.out.size).mono ?_; rintro e w4 ⟨rfl, hA, hb4⟩; have HA := Aside0.mk hA; have HB4 := Aside0.mk (below_step HB2.out hb4); clear hA hb4) | (go_at_call 15; refine (kn _ _).mono ?_; rintro e w8 ⟨rfl, ⟨nd, rfl⟩⟩))
        go_upto_region 11 with (go_at_call 12; refine (kF1 _ _ _ (HA.out.drewN _) (HB4.out.size)).mono ?_; rintro e w5 ⟨u5, v5, rfl, hU5, hA5, hK5⟩; obtain ⟨A5, c5, rfl⟩ := Kd.R_slice hU5; have HA5 := Aside0.mk hA5; have HB5 := Aside0.mk (hK5.below (pw_below_drewN HB4.out _) (HB4.out.size)); clear hU5 hA5 hK5)
        go_upto_region 12 with (go_at_call 12; refine (kF2 _ _ _ HA5.out HB5.out.size).mono ?_; rintro e w6 ⟨u5, v5, rfl, hU5, hA5, hK5⟩; obtain ⟨A6, c6, rfl⟩ := Kd.R_slice hU5; have HA6 := Aside0.mk hA5; have HB6 := Aside0.mk (hK5.below HB5.out (HB5.out.size)); clear hU5 hA5 hK5)
        by_cases s1 : skip = 1
        · rw [if_pos s1] at h
          have ds : (skip == 1) = true := beq_iff_eq.mpr s1
          by_cases t1 : F2.2.length = 1 ∧ F2.1.err = 0
          · rw [if_pos t1] at h
            obtain ⟨t1, t2⟩ := t1
            obtain rfl := Option.some.inj h
            have kE := fun m => flapErr_calls w.heap.size _ F2.1 _ (w6.drewN m) (HA6.out.drewN m)
            rw [t2] at kE
            clear h s1 t2 kF1 kF2 kF3
            go_wp2_with (first | (go_at_call 16; (first | refine (kE _).mono ?_ | refine (kE 0).mono ?_); rintro e w8 ⟨rfl, rfl⟩) | (go_at_call 15; refine (kn _ _).mono ?_; rintro e w8 ⟨rfl, ⟨nd, rfl⟩⟩) | (go_at_call 10; refine (kl _).mono ?_; rintro e w9 ⟨rfl, hb9⟩))
            go_ret
            exact ⟨rfl, below_step (by repeat (first | exact HB6.out | refine pw_below_drewN ?_ _)) hb9⟩
          · rw [if_neg t1] at h
            cases h
        · rw [if_neg s1] at h
          have ds : (skip == 1) = false := beq_eq_false_iff_ne.mpr s1
          by_cases t1 : F2.2.length = 0 ∧ F2.1.err = 121 ∧ F3.2.length = 0 ∧ flapLeft F3.1 = 0
          · rw [if_pos t1] at h
            obtain ⟨t1, t2, t3, t4⟩ := t1
            obtain rfl := Option.some.inj h
            have kE := fun m => flapErr_calls w.heap.size _ F2.1 _ (w6.drewN m) (HA6.out.drewN m)
            rw [t2] at kE
            have kL := fun W g v (hA : FlapAt w.heap.size W g F3.1 v) => flapLeft_calls w.heap.size g F3.1 v W hA
            rw [t4] at kL
            clear h s1 t2 t4 kF1 kF2
            go_wp2_with (first | (go_at_call 16; (first | refine (kE _).mono ?_ | refine (kE 0).mono ?_); rintro e w8 ⟨rfl, rfl⟩) | (go_at_call 12; refine (kF3 _ _ _ (HA6.out.drewN _) (HB6.out.size)).mono ?_; rintro e w7 ⟨u5, v5, rfl, hU5, hA5, hK5⟩; obtain ⟨A7, c7, rfl⟩ := Kd.R_slice hU5; have HA7 := Aside0.mk hA5; have HB7 := Aside0.mk (hK5.below (pw_below_drewN HB6.out _) (HB6.out.size)); clear hU5 hA5 hK5) | (go_at_call 17; refine (kL _ _ _ HA7.out).mono ?_; rintro e w8 ⟨rfl, rfl⟩) | (go_at_call 15; refine (kn _ _).mono ?_; rintro e w8 ⟨rfl, ⟨nd, rfl⟩⟩) | (go_at_call 10; refine (kl _).mono ?_; rintro e w9 ⟨rfl, hb9⟩))
            go_ret
            exact ⟨rfl, below_step HB7.out hb9⟩
          · rw [if_neg t1] at h
            cases h
      · rw [if_neg l1] at h
        cases h
    · rw [if_neg c8] at h
      obtain rfl := Option.some.inj h
      have ds : (p2 + q2 != 0) = true := bne_iff_ne.mpr c8
      clear h c8 c5 c6 c7
      go_enter Try.func6, Try.ntmps6
      go_upto_region 4 with (go_at_call 18; refine (kp _).mono ?_; rintro e w1 ⟨rfl, hb1⟩)
      have HX := Aside0.mk (blk_below (heap_alloc_new w (.cells #[.int .i64 ch, .int .i64 seq, .string data] 37)) hb1)
      have HB1 := Aside0.mk (below_step ((Below.refl w.heap.size w).alloc (Nat.le_refl _) _) hb1)
      have x0 : w1.cell? ⟨w.heap.size, 0, none⟩ = some (.int .i64 ch) := (blk_cell HX.out 0).trans rfl
      have x1 : w1.cell? ⟨w.heap.size, 1, none⟩ = some (.int .i64 seq) := (blk_cell HX.out 1).trans rfl
      have x2 : w1.cell? ⟨w.heap.size, 2, none⟩ = some (.string data) := (blk_cell HX.out 2).trans rfl
      have y1 : ∀ o, (w1.alloc o).cell? ⟨w.heap.size, 1, none⟩ = some (.int .i64 seq) := fun o => (blk_cell (blk_alloc HX.out o) 1).trans rfl
      clear hb1
      go_wp2_with (first | (go_at_call 10; refine (kl _).mono ?_; rintro e w9 ⟨rfl, hb9⟩) | (go_at_call 18; refine (kq _).mono ?_; rintro e w2 ⟨rfl, hb2⟩; have HB2 := Aside0.mk (below_step (HB1.out.alloc HB1.out.size _) hb2); clear hb2) | (go_at_call 11; refine (flapNew_calls w.heap.size _ HB2.out.size).mono ?_; rintro e w4 ⟨rfl, hA, hb4⟩; have HA := Aside0.mk hA; have HB4 := Aside0.mk (below_step HB2.out hb4); clear hA hb4) | (go_at_call 15; refine (kn _ _).mono ?_; rintro e w8 ⟨rfl, ⟨nd, rfl⟩⟩))
      go_ret
      exact ⟨rfl, below_step (by repeat (first | exact HB4.out | refine pw_below_drewN ?_ _)) hb9⟩
  · rw [if_neg c1] at h
    cases h
theorem wharflaw12_FlapOrder.callsT (k : Nat) (ch seq : Int) (data : ByteArray) (skip : Int) (more : ByteArray) (r : Bool) (w : World) (_ : Aside0 (r = true)) (h : wharflaw12_FlapOrder.f k ch seq data skip more = some r) :
    Calls Try.prog 6 #[.agg #[.int .i64 ch, .int .i64 seq, .string data], .int .i64 skip, .string more] w fun e w' => e = .returned (.bool r) ∧ Below w.heap.size w w' := wharflaw12_FlapOrder.calls k ch seq data skip more r w  h

end Go.Proofs.Ythncdeeakhilfaa.H
