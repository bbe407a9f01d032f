-- written by hp.py for this claim, out of the kit's printer and texts of my own
import Derived.Test.YtbeclnffcapfpaaHx0
import Derived.Test.YtbeclnffcapfpaaHx9
import Derived.Test.YtbeclnffcapfpaaHx10
import Derived.Test.YtbeclnffcapfpaaHx12
import Derived.Test.YtbeclnffcapfpaaHx13
import Derived.Test.YtbeclnffcapfpaaHx22
import Derived.Test.YtbeclnffcapfpaaHx23
import Derived.Test.YtbeclnffcapfpaaHx25
namespace Go.Proofs.Ytbeclnffcapfpaa.H
open Go.RowKit Go.Proofs.YtbeclnffcapfpaaW.PrintWords Go.Proofs.YtbeclnffcapfpaaW.PrintLast Go.Proofs.YtbeclnffcapfpaaW.PrintMore
attribute [local go_sem] max2_int min2_int max_two min_two max_three min_three max_four min_four   -- for this text's walks alone
set_option linter.unusedVariables false
set_option linter.unusedSimpArgs false

/-! ### wharflaw19_RateNever: function 5 -/
mutual
def wharflaw19_RateNever.j0 : Nat → List (S43) → Bool → Int → Int → Int → Int → Int → Int → Int → Int → Option (Bool)
  | 0, _, _, _, _, _, _, _, _, _, _ => none
  | k + 1, x1, x22, x441000, x441001, x441002, x441003, x441004, x441005, x441006, x441007 => if x22 = true then ((wharflaw19_live.f k).bind fun t443 => (some t443)) else (wharflaw19_RateNever.l0 k x1 0 x441000 x441001 x441002 x441003 x441004 x441005 x441006 x441007 ([] : List (S41)))
def wharflaw19_RateNever.l0 : Nat → List (S43) → Int → Int → Int → Int → Int → Int → Int → Int → Int → List (S41) → Option (Bool)
  | 0, _, _, _, _, _, _, _, _, _, _, _ => none
  | k + 1, x1, x6, x445000, x445001, x445002, x445003, x445004, x445005, x445006, x445007, x445008 => if x6 < (x1.length : Int) then (if 0 ≤ x6 then ((wharflaw19_note.f k ((rd_T43 x1 x6).f1.f0) ((rd_T43 x1 x6).f1.f1) ((rd_T43 x1 x6).f1.f2) ((rd_T43 x1 x6).f1.f3) ((rd_T43 x1 x6).f1.f4) ((rd_T43 x1 x6).f1.f5) ((rd_T43 x1 x6).f1.f6) ((rd_T43 x1 x6).f1.f7) ((rd_T43 x1 x6).f1.f8) ((rd_T43 x1 x6).f1.f9) ((rd_T43 x1 x6).f1.f10)).bind fun t447 => (if t447 > 2000 then (wharflaw19_RateNever.j2 k x1 x6 true x445000 x445001 x445002 x445003 x445004 x445005 x445006 x445007 x445008) else ((wharflaw19_time.f ((rd_T43 x1 x6).f2)).bind fun t449 => (wharflaw19_RateNever.j2 k x1 x6 (!t449) x445000 x445001 x445002 x445003 x445004 x445005 x445006 x445007 x445008)))) else (none)) else ((wharflaw19_live.f k).bind fun t445 => (some t445))
def wharflaw19_RateNever.j2 : Nat → List (S43) → Int → Bool → Int → Int → Int → Int → Int → Int → Int → Int → List (S41) → Option (Bool)
  | 0, _, _, _, _, _, _, _, _, _, _, _, _ => none
  | k + 1, x1, x6, x47, x445000, x445001, x445002, x445003, x445004, x445005, x445006, x445007, x445008 => if x47 = true then ((wharflaw19_live.f k).bind fun t450 => (some t450)) else (if 0 ≤ x6 then (if x6 < (x1.length : Int) then (if ((rd_T43 x1 x6).f0) = 0 then ((rate_Push.f k x445000 x445001 x445002 x445003 x445004 x445005 x445006 x445007 x445008 ((rd_T43 x1 x6).f1.f0) ((rd_T43 x1 x6).f1.f1) ((rd_T43 x1 x6).f1.f2) ((rd_T43 x1 x6).f1.f3) ((rd_T43 x1 x6).f1.f4) ((rd_T43 x1 x6).f1.f5) ((rd_T43 x1 x6).f1.f6) ((rd_T43 x1 x6).f1.f7) ((rd_T43 x1 x6).f1.f8) ((rd_T43 x1 x6).f1.f9) ((rd_T43 x1 x6).f1.f10)).bind fun bt453 => (wharflaw19_RateNever.j3 k x1 x6 bt453.1 bt453.2.1 bt453.2.2.1 bt453.2.2.2.1 bt453.2.2.2.2.1 bt453.2.2.2.2.2.1 bt453.2.2.2.2.2.2.1 bt453.2.2.2.2.2.2.2.1 bt453.2.2.2.2.2.2.2.2.1)) else ((rate_Pop.f k x445000 x445001 x445002 x445003 x445004 x445005 x445006 x445007 x445008 ((rd_T43 x1 x6).f2)).bind fun bt466 => (wharflaw19_RateNever.j3 k x1 x6 bt466.1 bt466.2.1 bt466.2.2.1 bt466.2.2.2.1 bt466.2.2.2.2.1 bt466.2.2.2.2.2.1 bt466.2.2.2.2.2.2.1 bt466.2.2.2.2.2.2.2.1 bt466.2.2.2.2.2.2.2.2.1))) else (none)) else (none))
def wharflaw19_RateNever.j3 : Nat → List (S43) → Int → Int → Int → Int → Int → Int → Int → Int → Int → List (S41) → Option (Bool)
  | 0, _, _, _, _, _, _, _, _, _, _, _ => none
  | k + 1, x1, x6, x445000, x445001, x445002, x445003, x445004, x445005, x445006, x445007, x445008 => if x445006 < x445003 then (some false) else ((rate_Check.f k x445000 x445001 x445002 x445003 x445004 x445005 x445006 x445007).bind fun t480 => ((wharflaw19_num.f t480).bind fun t481 => (if t481 = 0 then (if (x445008.length : Int) > 16 then (some false) else (wharflaw19_RateNever.l0 k x1 (wrap64 (x6 + 1)) x445000 x445001 x445002 x445003 x445004 x445005 x445006 x445007 x445008)) else (some false))))
end
def wharflaw19_RateNever.f (k : Nat) (a0_0 : Int) (a0_1 : Int) (a0_2 : Int) (a0_3 : Int) (a0_4 : Int) (a0_5 : Int) (a0_6 : Int) (a0_7 : Int) (l1 : List (S43)) : Option (Bool) := (rate_Check.f k a0_0 a0_1 a0_2 a0_3 a0_4 a0_5 a0_6 a0_7).bind fun t441 => ((wharflaw19_num.f t441).bind fun t442 => (if t442 = 0 then (if a0_6 < a0_3 then (wharflaw19_RateNever.j0 k l1 true a0_0 a0_1 a0_2 a0_3 a0_4 a0_5 a0_6 a0_7) else (wharflaw19_RateNever.j0 k l1 (decide ((l1.length : Int) > 60)) a0_0 a0_1 a0_2 a0_3 a0_4 a0_5 a0_6 a0_7)) else (wharflaw19_RateNever.j0 k l1 true a0_0 a0_1 a0_2 a0_3 a0_4 a0_5 a0_6 a0_7)))
theorem wharflaw19_RateNever.mono_l : ∀ k, (∀ y0 y1 y2 y3 y4 y5 y6 y7 y8 y9, LeO (wharflaw19_RateNever.j0 k y0 y1 y2 y3 y4 y5 y6 y7 y8 y9) (wharflaw19_RateNever.j0 (k + 1) y0 y1 y2 y3 y4 y5 y6 y7 y8 y9)) ∧ (∀ y0 y1 y2 y3 y4 y5 y6 y7 y8 y9 y10, LeO (wharflaw19_RateNever.l0 k y0 y1 y2 y3 y4 y5 y6 y7 y8 y9 y10) (wharflaw19_RateNever.l0 (k + 1) y0 y1 y2 y3 y4 y5 y6 y7 y8 y9 y10)) ∧ (∀ y0 y1 y2 y3 y4 y5 y6 y7 y8 y9 y10 y11, LeO (wharflaw19_RateNever.j2 k y0 y1 y2 y3 y4 y5 y6 y7 y8 y9 y10 y11) (wharflaw19_RateNever.j2 (k + 1) y0 y1 y2 y3 y4 y5 y6 y7 y8 y9 y10 y11)) ∧ (∀ y0 y1 y2 y3 y4 y5 y6 y7 y8 y9 y10, LeO (wharflaw19_RateNever.j3 k y0 y1 y2 y3 y4 y5 y6 y7 y8 y9 y10) (wharflaw19_RateNever.j3 (k + 1) y0 y1 y2 y3 y4 y5 y6 y7 y8 y9 y10))
  | 0 => ⟨fun _ _ _ _ _ _ _ _ _ _ r h => by simp [wharflaw19_RateNever.j0] at h, fun _ _ _ _ _ _ _ _ _ _ _ r h => by simp [wharflaw19_RateNever.l0] at h, fun _ _ _ _ _ _ _ _ _ _ _ _ r h => by simp [wharflaw19_RateNever.j2] at h, fun _ _ _ _ _ _ _ _ _ _ _ r h => by simp [wharflaw19_RateNever.j3] at h⟩
  | k + 1 => by
    obtain ⟨ih0, ih1, ih2, ih3⟩ := wharflaw19_RateNever.mono_l k
    refine ⟨?_, ?_, ?_, ?_⟩
    · intro y0 y1 y2 y3 y4 y5 y6 y7 y8 y9
      unfold wharflaw19_RateNever.j0
      repeat' first
      | (with_reducible exact ih0 _ _ _ _ _ _ _ _ _ _)
      | (with_reducible exact ih1 _ _ _ _ _ _ _ _ _ _ _)
      | (with_reducible exact ih2 _ _ _ _ _ _ _ _ _ _ _ _)
      | (with_reducible exact ih3 _ _ _ _ _ _ _ _ _ _ _)
      | (with_reducible exact rate_Check.mono _ _ _ _ _ _ _ _ _)
      | (with_reducible exact rate_Pop.mono _ _ _ _ _ _ _ _ _ _ _)
      | (with_reducible exact rate_Push.mono _ _ _ _ _ _ _ _ _ _ _ _ _ _ _ _ _ _ _ _ _)
      | (with_reducible exact wharflaw19_live.mono _)
      | (with_reducible exact wharflaw19_note.mono _ _ _ _ _ _ _ _ _ _ _ _)
      | (with_reducible exact LeO.refl _)
      | (with_reducible exact LeO.none _)
      | (with_reducible refine LeO.ite ?_ ?_)
      | (with_reducible refine LeO.bind ?_ (fun _ => ?_))
      | exact ih0 _ _ _ _ _ _ _ _ _ _
      | exact ih1 _ _ _ _ _ _ _ _ _ _ _
      | exact ih2 _ _ _ _ _ _ _ _ _ _ _ _
      | exact ih3 _ _ _ _ _ _ _ _ _ _ _
      | exact rate_Check.mono _ _ _ _ _ _ _ _ _
      | exact rate_Pop.mono _ _ _ _ _ _ _ _ _ _ _
      | exact rate_Push.mono _ _ _ _ _ _ _ _ _ _ _ _ _ _ _ _ _ _ _ _ _
      | exact wharflaw19_live.mono _
      | exact wharflaw19_note.mono _ _ _ _ _ _ _ _ _ _ _ _
      | exact LeO.none _
      | refine LeO.ite ?_ ?_
      | refine LeO.bind ?_ (fun _ => ?_)
    · intro y0 y1 y2 y3 y4 y5 y6 y7 y8 y9 y10
      unfold wharflaw19_RateNever.l0
      repeat' first
      | (with_reducible exact ih0 _ _ _ _ _ _ _ _ _ _)
      | (with_reducible exact ih1 _ _ _ _ _ _ _ _ _ _ _)
      | (with_reducible exact ih2 _ _ _ _ _ _ _ _ _ _ _ _)
      | (with_reducible exact ih3 _ _ _ _ _ _ _ _ _ _ _)
      | (with_reducible exact rate_Check.mono _ _ _ _ _ _ _ _ _)
      | (with_reducible exact rate_Pop.mono _ _ _ _ _ _ _ _ _ _ _)
      | (with_reducible exact rate_Push.mono _ _ _ _ _ _ _ _ _ _ _ _ _ _ _ _ _ _ _ _ _)
      | (with_reducible exact wharflaw19_live.mono _)
      | (with_reducible exact wharflaw19_note.mono _ _ _ _ _ _ _ _ _ _ _ _)
      | (with_reducible exact LeO.refl _)
      | (with_reducible exact LeO.none _)
      | (with_reducible refine LeO.ite ?_ ?_)
      | (with_reducible refine LeO.bind ?_ (fun _ => ?_))
      | exact ih0 _ _ _ _ _ _ _ _ _ _
      | exact ih1 _ _ _ _ _ _ _ _ _ _ _
      | exact ih2 _ _ _ _ _ _ _ _ _ _ _ _
      | exact ih3 _ _ _ _ _ _ _ _ _ _ _
      | exact rate_Check.mono _ _ _ _ _ _ _ _ _
      | exact rate_Pop.mono _ _ _ _ _ _ _ _ _ _ _
      | exact rate_Push.mono _ _ _ _ _ _ _ _ _ _ _ _ _ _ _ _ _ _ _ _ _
      | exact wharflaw19_live.mono _
      | exact wharflaw19_note.mono _ _ _ _ _ _ _ _ _ _ _ _
      | exact LeO.none _
      | refine LeO.ite ?_ ?_
      | refine LeO.bind ?_ (fun _ => ?_)
    · intro y0 y1 y2 y3 y4 y5 y6 y7 y8 y9 y10 y11
      unfold wharflaw19_RateNever.j2
      repeat' first
      | (with_reducible exact ih0 _ _ _ _ _ _ _ _ _ _)
      | (with_reducible exact ih1 _ _ _ _ _ _ _ _ _ _ _)
      | (with_reducible exact ih2 _ _ _ _ _ _ _ _ _ _ _ _)
      | (with_reducible exact ih3 _ _ _ _ _ _ _ _ _ _ _)
      | (with_reducible exact rate_Check.mono _ _ _ _ _ _ _ _ _)
      | (with_reducible exact rate_Pop.mono _ _ _ _ _ _ _ _ _ _ _)
      | (with_reducible exact rate_Push.mono _ _ _ _ _ _ _ _ _ _ _ _ _ _ _ _ _ _ _ _ _)
      | (with_reducible exact wharflaw19_live.mono _)
      | (with_reducible exact wharflaw19_note.mono _ _ _ _ _ _ _ _ _ _ _ _)
      | (with_reducible exact LeO.refl _)
      | (with_reducible exact LeO.none _)
      | (with_reducible refine LeO.ite ?_ ?_)
      | (with_reducible refine LeO.bind ?_ (fun _ => ?_))
      | exact ih0 _ _ _ _ _ _ _ _ _ _
      | exact ih1 _ _ _ _ _ _ _ _ _ _ _
      | exact ih2 _ _ _ _ _ _ _ _ _ _ _ _
      | exact ih3 _ _ _ _ _ _ _ _ _ _ _
      | exact rate_Check.mono _ _ _ _ _ _ _ _ _
      | exact rate_Pop.mono _ _ _ _ _ _ _ _ _ _ _
      | exact rate_Push.mono _ _ _ _ _ _ _ _ _ _ _ _ _ _ _ _ _ _ _ _ _
      | exact wharflaw19_live.mono _
      | exact wharflaw19_note.mono _ _ _ _ _ _ _ _ _ _ _ _
      | exact LeO.none _
      | refine LeO.ite ?_ ?_
      | refine LeO.bind ?_ (fun _ => ?_)
    · intro y0 y1 y2 y3 y4 y5 y6 y7 y8 y9 y10
      unfold wharflaw19_RateNever.j3
      repeat' first
      | (with_reducible exact ih0 _ _ _ _ _ _ _ _ _ _)
      | (with_reducible exact ih1 _ _ _ _ _ _ _ _ _ _ _)
      | (with_reducible exact ih2 _ _ _ _ _ _ _ _ _ _ _ _)
      | (with_reducible exact ih3 _ _ _ _ _ _ _ _ _ _ _)
      | (with_reducible exact rate_Check.mono _ _ _ _ _ _ _ _ _)
      | (with_reducible exact rate_Pop.mono _ _ _ _ _ _ _ _ _ _ _)
      | (with_reducible exact rate_Push.mono _ _ _ _ _ _ _ _ _ _ _ _ _ _ _ _ _ _ _ _ _)
      | (with_reducible exact wharflaw19_live.mono _)
      | (with_reducible exact wharflaw19_note.mono _ _ _ _ _ _ _ _ _ _ _ _)
      | (with_reducible exact LeO.refl _)
      | (with_reducible exact LeO.none _)
      | (with_reducible refine LeO.ite ?_ ?_)
      | (with_reducible refine LeO.bind ?_ (fun _ => ?_))
      | exact ih0 _ _ _ _ _ _ _ _ _ _
      | exact ih1 _ _ _ _ _ _ _ _ _ _ _
      | exact ih2 _ _ _ _ _ _ _ _ _ _ _ _
      | exact ih3 _ _ _ _ _ _ _ _ _ _ _
      | exact rate_Check.mono _ _ _ _ _ _ _ _ _
      | exact rate_Pop.mono _ _ _ _ _ _ _ _ _ _ _
      | exact rate_Push.mono _ _ _ _ _ _ _ _ _ _ _ _ _ _ _ _ _ _ _ _ _
      | exact wharflaw19_live.mono _
      | exact wharflaw19_note.mono _ _ _ _ _ _ _ _ _ _ _ _
      | exact LeO.none _
      | refine LeO.ite ?_ ?_
      | refine LeO.bind ?_ (fun _ => ?_)
theorem wharflaw19_RateNever.mono : ∀ a0 a1 a2 a3 a4 a5 a6 a7 a8 k, LeO (wharflaw19_RateNever.f k a0 a1 a2 a3 a4 a5 a6 a7 a8) (wharflaw19_RateNever.f (k + 1) a0 a1 a2 a3 a4 a5 a6 a7 a8) := by
  intro a0 a1 a2 a3 a4 a5 a6 a7 a8 k
  obtain ⟨ih0, ih1, ih2, ih3⟩ := wharflaw19_RateNever.mono_l k
  unfold wharflaw19_RateNever.f
  repeat' first
      | (with_reducible exact ih0 _ _ _ _ _ _ _ _ _ _)
      | (with_reducible exact ih1 _ _ _ _ _ _ _ _ _ _ _)
      | (with_reducible exact ih2 _ _ _ _ _ _ _ _ _ _ _ _)
      | (with_reducible exact ih3 _ _ _ _ _ _ _ _ _ _ _)
      | (with_reducible exact rate_Check.mono _ _ _ _ _ _ _ _ _)
      | (with_reducible exact rate_Pop.mono _ _ _ _ _ _ _ _ _ _ _)
      | (with_reducible exact rate_Push.mono _ _ _ _ _ _ _ _ _ _ _ _ _ _ _ _ _ _ _ _ _)
      | (with_reducible exact wharflaw19_live.mono _)
      | (with_reducible exact wharflaw19_note.mono _ _ _ _ _ _ _ _ _ _ _ _)
      | (with_reducible exact LeO.refl _)
      | (with_reducible exact LeO.none _)
      | (with_reducible refine LeO.ite ?_ ?_)
      | (with_reducible refine LeO.bind ?_ (fun _ => ?_))
      | exact ih0 _ _ _ _ _ _ _ _ _ _
      | exact ih1 _ _ _ _ _ _ _ _ _ _ _
      | exact ih2 _ _ _ _ _ _ _ _ _ _ _ _
      | exact ih3 _ _ _ _ _ _ _ _ _ _ _
      | exact rate_Check.mono _ _ _ _ _ _ _ _ _
      | exact rate_Pop.mono _ _ _ _ _ _ _ _ _ _ _
      | exact rate_Push.mono _ _ _ _ _ _ _ _ _ _ _ _ _ _ _ _ _ _ _ _ _
      | exact wharflaw19_live.mono _
      | exact wharflaw19_note.mono _ _ _ _ _ _ _ _ _ _ _ _
      | exact LeO.none _
      | refine LeO.ite ?_ ?_
      | refine LeO.bind ?_ (fun _ => ?_)
def wharflaw19_RateNever.T10 : Bool × List (List Nat × List Nat) := (true, [([], []), ([], []), ([], []), ([1, 2], [1, 2]), ([3], [3]), ([4], [4]), ([0, 5], [0, 5]), ([6], [6]), ([7], [7]), ([7], [7]), ([8, 6, 0, 1, 2, 3, 4, 5, 6, 7, 8], [8])])
def wharflaw19_RateNever.B10 : List Nat := [0, 0, 0, 6, 14, 30, 63, 127, 255, 255, 511]
theorem wharflaw19_RateNever.tab10 : rtab .any (opsOf Try.f5 10) = wharflaw19_RateNever.T10 := by kernel_rfl
theorem wharflaw19_RateNever.bits10 : waitsOk wharflaw19_RateNever.T10.2 wharflaw19_RateNever.B10 = true := by kernel_rfl
def wharflaw19_RateNever.T11 : Bool × List (List Nat × List Nat) := (true, [([], []), ([], []), ([], []), ([1, 2], [1, 2]), ([3], [3]), ([4], [4]), ([0, 5], [0, 5]), ([6], [6]), ([7], [7]), ([7], [7]), ([8, 6, 0, 1, 2, 3, 4, 5, 6, 7, 8], [8])])
def wharflaw19_RateNever.B11 : List Nat := [0, 0, 0, 6, 14, 30, 63, 127, 255, 255, 511]
theorem wharflaw19_RateNever.tab11 : rtab .any (opsOf Try.f5 11) = wharflaw19_RateNever.T11 := by kernel_rfl
theorem wharflaw19_RateNever.bits11 : waitsOk wharflaw19_RateNever.T11.2 wharflaw19_RateNever.B11 = true := by kernel_rfl
set_option maxHeartbeats 8000000 in
set_option maxRecDepth 100000 in
theorem wharflaw19_RateNever.callsT (k : Nat) (a0_0 : Int) (a0_1 : Int) (a0_2 : Int) (a0_3 : Int) (a0_4 : Int) (a0_5 : Int) (a0_6 : Int) (a0_7 : Int) (A1 : Option Addr) (c1 : Nat) (l1 : List (S43)) (r : Bool) (w : World) (hr1 : Kd.C k43 w A1 l1.length l1) (hc1 : l1.length ≤ c1) (HT_ : Aside0 (r = true)) (h : wharflaw19_RateNever.f k a0_0 a0_1 a0_2 a0_3 a0_4 a0_5 a0_6 a0_7 l1 = some r) :
    Calls Try.prog 5 #[.agg #[.int .i64 a0_0, .int .i64 a0_1, .int .i64 a0_2, .int .i64 a0_3, .int .i64 a0_4, .int .i64 a0_5, .int .i64 a0_6, .int .i64 a0_7], .slice A1 l1.length c1] w fun e w' => e = .returned (.bool r) ∧ Below w.heap.size w w' := by
  have hu23 := Try.underlying23
  have hu36 := Try.underlying36
  have hu41 := Try.underlying41
  have HR1 := Aside0.mk hr1
  have HC1 := Aside0.mk hc1
  clear hr1 hc1
  have HB := Aside0.mk (Below.refl w.heap.size w)
  have H : ((rate_Check.f k a0_0 a0_1 a0_2 a0_3 a0_4 a0_5 a0_6 a0_7).bind fun t441 => ((wharflaw19_num.f t441).bind fun t442 => (if t442 = 0 then (if a0_6 < a0_3 then (wharflaw19_RateNever.j0 k l1 true a0_0 a0_1 a0_2 a0_3 a0_4 a0_5 a0_6 a0_7) else (wharflaw19_RateNever.j0 k l1 (decide ((l1.length : Int) > 60)) a0_0 a0_1 a0_2 a0_3 a0_4 a0_5 a0_6 a0_7)) else (wharflaw19_RateNever.j0 k l1 true a0_0 a0_1 a0_2 a0_3 a0_4 a0_5 a0_6 a0_7)))) = some r := h
  clear h
  have HC3 := Aside0.mk H
  clear H
  go_enter Try.func5, Try.ntmps5
  go_upto_region 1 with (first | ((with_reducible refine gate_dst (N := 2) rfl ?_); (try (refine gate_guard (by rfl) ?_; dsimp only)); refine box_event ?hg (N := 2) ?hd (cs := #[.int .i64 a0_0, .int .i64 a0_1, .int .i64 a0_2, .int .i64 a0_3, .int .i64 a0_4, .int .i64 a0_5, .int .i64 a0_6, .int .i64 a0_7]) (t := 23) ?hr ?_; (case hd => rfl); (case hg => rfl); (case hr => first | (go_simp; done) | (go_simp; rfl)); intro gb440 hg w4 hbox hb; have n0_ := Aside0.mk (below_step (by repeat (first | (with_reducible first | exact HB.out | apply below_alloc | apply pw_below_drewN | apply below_drew1) | exact HB.out)) hb); have n1_ := Aside0.mk (hbox); have n2_ := Aside0.mk ((by rw [hg]; exact (below_size (by repeat (first | (with_reducible first | exact HB.out | apply below_alloc | apply pw_below_drewN | apply below_drew1) | exact HB.out))) : w.heap.size ≤ gb440)); have n3_ := Aside0.mk ((by rw [hg]; exact (below_size (by repeat (first | (with_reducible first | exact HB.out | apply below_alloc | apply pw_below_drewN | apply below_drew1) | exact HB.out))) : w.heap.size ≤ gb440)); clear HB; have HB := n0_; have BK440 := n1_; have GW440 := n2_; have GE440 := n3_; clear n0_ n1_ n2_ n3_; clear hb hbox hg))
  (try simp only [Act.put, List.setIfInBounds_toArray, List.set_cons_zero, List.set_cons_succ])
  go_cut [22] (fun v22 wc => ∃ (kq : Nat) (x22_2 : Bool), v22 = .bool x22_2 ∧ Aside0 (wharflaw19_RateNever.j0 kq l1 x22_2 a0_0 a0_1 a0_2 a0_3 a0_4 a0_5 a0_6 a0_7 = some r) ∧ Aside0 (kq ≤ k) ∧ Aside0 (wc.heap[gb440]? = some (.cells #[.int .i64 a0_0, .int .i64 a0_1, .int .i64 a0_2, .int .i64 a0_3, .int .i64 a0_4, .int .i64 a0_5, .int .i64 a0_6, .int .i64 a0_7] 23 (0, 0))) ∧ Aside0 (Below w.heap.size w wc))
  case first =>
    have H := HC3.out
    clear HC3
    replace H := Option.bind_eq_some_iff.mp H
    obtain ⟨t441, A50, H⟩ := H
    replace H : ((wharflaw19_num.f t441).bind fun t442 => (if t442 = 0 then (if a0_6 < a0_3 then (wharflaw19_RateNever.j0 k l1 true a0_0 a0_1 a0_2 a0_3 a0_4 a0_5 a0_6 a0_7) else (wharflaw19_RateNever.j0 k l1 (decide ((l1.length : Int) > 60)) a0_0 a0_1 a0_2 a0_3 a0_4 a0_5 a0_6 a0_7)) else (wharflaw19_RateNever.j0 k l1 true a0_0 a0_1 a0_2 a0_3 a0_4 a0_5 a0_6 a0_7))) = some r := H
    have A5 := Aside0.mk A50
    clear A50
    replace H := Option.bind_eq_some_iff.mp H
    obtain ⟨t442, A60, H⟩ := H
    replace H : (if t442 = 0 then (if a0_6 < a0_3 then (wharflaw19_RateNever.j0 k l1 true a0_0 a0_1 a0_2 a0_3 a0_4 a0_5 a0_6 a0_7) else (wharflaw19_RateNever.j0 k l1 (decide ((l1.length : Int) > 60)) a0_0 a0_1 a0_2 a0_3 a0_4 a0_5 a0_6 a0_7)) else (wharflaw19_RateNever.j0 k l1 true a0_0 a0_1 a0_2 a0_3 a0_4 a0_5 a0_6 a0_7)) = some r := H
    have A6 := Aside0.mk A60
    clear A60
    by_cases c7 : t442 = 0
    · rw [if_pos c7] at H
      have c7b0 : (t442 == 0) = true := beq_iff_eq.mpr c7
      have c7b1 : (t442 != 0) = false := bne_eq_false_iff_eq.mpr c7
      clear c7
      (first | rw [c7b0] | (simp only [i64_w, i32_w]; rw [c7b0]) | skip)
      by_cases c8 : a0_6 < a0_3
      · rw [if_pos c8] at H
        have c8b0 : decide (a0_6 < a0_3) = true := decide_eq_true c8
        clear c8
        have H' := Aside0.mk H
        clear H
        have hcz9_0 : w4.cell? ⟨gb440, 0, none⟩ = some (.int .i64 a0_0) := (blk_cell BK440.out 0).trans rfl
        have hcz9_1 : w4.cell? ⟨gb440, 1, none⟩ = some (.int .i64 a0_1) := (blk_cell BK440.out 1).trans rfl
        have hcz9_2 : w4.cell? ⟨gb440, 2, none⟩ = some (.int .i64 a0_2) := (blk_cell BK440.out 2).trans rfl
        have hcz9_3 : w4.cell? ⟨gb440, 3, none⟩ = some (.int .i64 a0_3) := (blk_cell BK440.out 3).trans rfl
        have hcz9_4 : w4.cell? ⟨gb440, 4, none⟩ = some (.int .i64 a0_4) := (blk_cell BK440.out 4).trans rfl
        have hcz9_5 : w4.cell? ⟨gb440, 5, none⟩ = some (.int .i64 a0_5) := (blk_cell BK440.out 5).trans rfl
        have hcz9_6 : w4.cell? ⟨gb440, 6, none⟩ = some (.int .i64 a0_6) := (blk_cell BK440.out 6).trans rfl
        have hcz9_7 : w4.cell? ⟨gb440, 7, none⟩ = some (.int .i64 a0_7) := (blk_cell BK440.out 7).trans rfl
        have hfz9_0 := blk_frozen BK440.out 0
        have hfz9_1 := blk_frozen BK440.out 1
        have hfz9_2 := blk_frozen BK440.out 2
        have hfz9_3 := blk_frozen BK440.out 3
        have hfz9_4 := blk_frozen BK440.out 4
        have hfz9_5 := blk_frozen BK440.out 5
        have hfz9_6 := blk_frozen BK440.out 6
        have hfz9_7 := blk_frozen BK440.out 7
        go_wp2_with (first | ((with_reducible refine gate_callee (f := 10) rfl ?_); refine goesL_ (some 8) rfl rfl Try.func10 (by kernel_rfl) rfl #[.agg #[.int .i64 a0_0, .int .i64 a0_1, .int .i64 a0_2, .int .i64 a0_3, .int .i64 a0_4, .int .i64 a0_5, .int .i64 a0_6, .int .i64 a0_7]] rfl (by (try simp only [List.map_toArray, List.map_cons, List.map_nil]); first | done | rfl | (simp only [List.length_drop, List.length_take]; rfl)) ?_; (with_reducible refine (rate_Check.calls k a0_0 a0_1 a0_2 a0_3 a0_4 a0_5 a0_6 a0_7 t441 _ A5.out).mono ?_); rintro e w10 ⟨rfl, hb⟩; refine ⟨_, rfl, ?_⟩; have n0_ := Aside0.mk (blk_below (g := gb440) (o := .cells #[.int .i64 a0_0, .int .i64 a0_1, .int .i64 a0_2, .int .i64 a0_3, .int .i64 a0_4, .int .i64 a0_5, .int .i64 a0_6, .int .i64 a0_7] 23 (0, 0)) (by (with_reducible repeat (first | refine blk_drewN ?_ _ | refine blk_drew ?_ | refine blk_alloc ?_ _)); exact BK440.out) hb); have n1_ := Aside0.mk (below_step (by repeat (first | (with_reducible first | exact HB.out | apply below_alloc | apply pw_below_drewN | apply below_drew1 | refine below_set ?_ GE440.out) | exact HB.out)) hb); clear BK440; clear HB; have BK440 := n0_; have HB := n1_; clear n0_ n1_; (try clear hb); (try clear hb2); (try clear hk); (try clear hi)) | ((with_reducible refine gate_callee (f := 9) rfl ?_); refine goesL_ (some 9) rfl rfl Try.func9 (by kernel_rfl) rfl #[.int .i64 t441] rfl (by (try simp only [List.map_toArray, List.map_cons, List.map_nil]); first | done | rfl | (simp only [List.length_drop, List.length_take]; rfl)) ?_; (with_reducible refine (wharflaw19_num.calls t441 t442 _ A6.out).mono ?_); rintro e w' ⟨rfl, ⟨nd, rfl⟩⟩; refine ⟨_, rfl, ?_⟩; have hcz11_0 : w10.cell? ⟨gb440, 0, none⟩ = some (.int .i64 a0_0) := (blk_cell BK440.out 0).trans rfl; have hcz11_1 : w10.cell? ⟨gb440, 1, none⟩ = some (.int .i64 a0_1) := (blk_cell BK440.out 1).trans rfl; have hcz11_2 : w10.cell? ⟨gb440, 2, none⟩ = some (.int .i64 a0_2) := (blk_cell BK440.out 2).trans rfl; have hcz11_3 : w10.cell? ⟨gb440, 3, none⟩ = some (.int .i64 a0_3) := (blk_cell BK440.out 3).trans rfl; have hcz11_4 : w10.cell? ⟨gb440, 4, none⟩ = some (.int .i64 a0_4) := (blk_cell BK440.out 4).trans rfl; have hcz11_5 : w10.cell? ⟨gb440, 5, none⟩ = some (.int .i64 a0_5) := (blk_cell BK440.out 5).trans rfl; have hcz11_6 : w10.cell? ⟨gb440, 6, none⟩ = some (.int .i64 a0_6) := (blk_cell BK440.out 6).trans rfl; have hcz11_7 : w10.cell? ⟨gb440, 7, none⟩ = some (.int .i64 a0_7) := (blk_cell BK440.out 7).trans rfl; have hfz11_0 := blk_frozen BK440.out 0; have hfz11_1 := blk_frozen BK440.out 1; have hfz11_2 := blk_frozen BK440.out 2; have hfz11_3 := blk_frozen BK440.out 3; have hfz11_4 := blk_frozen BK440.out 4; have hfz11_5 := blk_frozen BK440.out 5; have hfz11_6 := blk_frozen BK440.out 6; have hfz11_7 := blk_frozen BK440.out 7))
        go_meet
        case rel => exact ⟨_, (true), (by first | rfl | (simp; done) | (simp [*]; done)), H', ⟨by first | omega | exact Nat.le_refl _⟩, ⟨by (with_reducible repeat (first | refine blk_drewN ?_ _ | refine blk_drew ?_ | refine blk_alloc ?_ _)); exact BK440.out⟩, ⟨by repeat (first | (with_reducible first | exact HB.out | apply below_alloc | apply pw_below_drewN | apply below_drew1 | refine below_set ?_ GE440.out) | exact HB.out)⟩⟩
      · rw [if_neg c8] at H
        have c8b0 : decide (a0_6 < a0_3) = false := decide_eq_false c8
        clear c8
        have H' := Aside0.mk H
        clear H
        have hcz12_0 : w4.cell? ⟨gb440, 0, none⟩ = some (.int .i64 a0_0) := (blk_cell BK440.out 0).trans rfl
        have hcz12_1 : w4.cell? ⟨gb440, 1, none⟩ = some (.int .i64 a0_1) := (blk_cell BK440.out 1).trans rfl
        have hcz12_2 : w4.cell? ⟨gb440, 2, none⟩ = some (.int .i64 a0_2) := (blk_cell BK440.out 2).trans rfl
        have hcz12_3 : w4.cell? ⟨gb440, 3, none⟩ = some (.int .i64 a0_3) := (blk_cell BK440.out 3).trans rfl
        have hcz12_4 : w4.cell? ⟨gb440, 4, none⟩ = some (.int .i64 a0_4) := (blk_cell BK440.out 4).trans rfl
        have hcz12_5 : w4.cell? ⟨gb440, 5, none⟩ = some (.int .i64 a0_5) := (blk_cell BK440.out 5).trans rfl
        have hcz12_6 : w4.cell? ⟨gb440, 6, none⟩ = some (.int .i64 a0_6) := (blk_cell BK440.out 6).trans rfl
        have hcz12_7 : w4.cell? ⟨gb440, 7, none⟩ = some (.int .i64 a0_7) := (blk_cell BK440.out 7).trans rfl
        have hfz12_0 := blk_frozen BK440.out 0
        have hfz12_1 := blk_frozen BK440.out 1
        have hfz12_2 := blk_frozen BK440.out 2
        have hfz12_3 := blk_frozen BK440.out 3
        have hfz12_4 := blk_frozen BK440.out 4
        have hfz12_5 := blk_frozen BK440.out 5
        have hfz12_6 := blk_frozen BK440.out 6
        have hfz12_7 := blk_frozen BK440.out 7
        go_wp2_with (first | ((with_reducible refine gate_callee (f := 10) rfl ?_); refine goesL_ (some 8) rfl rfl Try.func10 (by kernel_rfl) rfl #[.agg #[.int .i64 a0_0, .int .i64 a0_1, .int .i64 a0_2, .int .i64 a0_3, .int .i64 a0_4, .int .i64 a0_5, .int .i64 a0_6, .int .i64 a0_7]] rfl (by (try simp only [List.map_toArray, List.map_cons, List.map_nil]); first | done | rfl | (simp only [List.length_drop, List.length_take]; rfl)) ?_; (with_reducible refine (rate_Check.calls k a0_0 a0_1 a0_2 a0_3 a0_4 a0_5 a0_6 a0_7 t441 _ A5.out).mono ?_); rintro e w13 ⟨rfl, hb⟩; refine ⟨_, rfl, ?_⟩; have n0_ := Aside0.mk (blk_below (g := gb440) (o := .cells #[.int .i64 a0_0, .int .i64 a0_1, .int .i64 a0_2, .int .i64 a0_3, .int .i64 a0_4, .int .i64 a0_5, .int .i64 a0_6, .int .i64 a0_7] 23 (0, 0)) (by (with_reducible repeat (first | refine blk_drewN ?_ _ | refine blk_drew ?_ | refine blk_alloc ?_ _)); exact BK440.out) hb); have n1_ := Aside0.mk (below_step (by repeat (first | (with_reducible first | exact HB.out | apply below_alloc | apply pw_below_drewN | apply below_drew1 | refine below_set ?_ GE440.out) | exact HB.out)) hb); clear BK440; clear HB; have BK440 := n0_; have HB := n1_; clear n0_ n1_; (try clear hb); (try clear hb2); (try clear hk); (try clear hi)) | ((with_reducible refine gate_callee (f := 9) rfl ?_); refine goesL_ (some 9) rfl rfl Try.func9 (by kernel_rfl) rfl #[.int .i64 t441] rfl (by (try simp only [List.map_toArray, List.map_cons, List.map_nil]); first | done | rfl | (simp only [List.length_drop, List.length_take]; rfl)) ?_; (with_reducible refine (wharflaw19_num.calls t441 t442 _ A6.out).mono ?_); rintro e w' ⟨rfl, ⟨nd, rfl⟩⟩; refine ⟨_, rfl, ?_⟩; have hcz14_0 : w13.cell? ⟨gb440, 0, none⟩ = some (.int .i64 a0_0) := (blk_cell BK440.out 0).trans rfl; have hcz14_1 : w13.cell? ⟨gb440, 1, none⟩ = some (.int .i64 a0_1) := (blk_cell BK440.out 1).trans rfl; have hcz14_2 : w13.cell? ⟨gb440, 2, none⟩ = some (.int .i64 a0_2) := (blk_cell BK440.out 2).trans rfl; have hcz14_3 : w13.cell? ⟨gb440, 3, none⟩ = some (.int .i64 a0_3) := (blk_cell BK440.out 3).trans rfl; have hcz14_4 : w13.cell? ⟨gb440, 4, none⟩ = some (.int .i64 a0_4) := (blk_cell BK440.out 4).trans rfl; have hcz14_5 : w13.cell? ⟨gb440, 5, none⟩ = some (.int .i64 a0_5) := (blk_cell BK440.out 5).trans rfl; have hcz14_6 : w13.cell? ⟨gb440, 6, none⟩ = some (.int .i64 a0_6) := (blk_cell BK440.out 6).trans rfl; have hcz14_7 : w13.cell? ⟨gb440, 7, none⟩ = some (.int .i64 a0_7) := (blk_cell BK440.out 7).trans rfl; have hfz14_0 := blk_frozen BK440.out 0; have hfz14_1 := blk_frozen BK440.out 1; have hfz14_2 := blk_frozen BK440.out 2; have hfz14_3 := blk_frozen BK440.out 3; have hfz14_4 := blk_frozen BK440.out 4; have hfz14_5 := blk_frozen BK440.out 5; have hfz14_6 := blk_frozen BK440.out 6; have hfz14_7 := blk_frozen BK440.out 7))
        go_meet
        case rel => exact ⟨_, (decide ((l1.length : Int) > 60)), (by first | rfl | (simp; done) | (simp [*]; done)), H', ⟨by first | omega | exact Nat.le_refl _⟩, ⟨by (with_reducible repeat (first | refine blk_drewN ?_ _ | refine blk_drew ?_ | refine blk_alloc ?_ _)); exact BK440.out⟩, ⟨by repeat (first | (with_reducible first | exact HB.out | apply below_alloc | apply pw_below_drewN | apply below_drew1 | refine below_set ?_ GE440.out) | exact HB.out)⟩⟩
    · rw [if_neg c7] at H
      have c7b0 : (t442 == 0) = false := beq_eq_false_iff_ne.mpr c7
      have c7b1 : (t442 != 0) = true := bne_iff_ne.mpr c7
      (first | rw [c7b0] | (simp only [i64_w, i32_w]; rw [c7b0]) | skip)
      have H' := Aside0.mk H
      clear H
      have hcz15_0 : w4.cell? ⟨gb440, 0, none⟩ = some (.int .i64 a0_0) := (blk_cell BK440.out 0).trans rfl
      have hcz15_1 : w4.cell? ⟨gb440, 1, none⟩ = some (.int .i64 a0_1) := (blk_cell BK440.out 1).trans rfl
      have hcz15_2 : w4.cell? ⟨gb440, 2, none⟩ = some (.int .i64 a0_2) := (blk_cell BK440.out 2).trans rfl
      have hcz15_3 : w4.cell? ⟨gb440, 3, none⟩ = some (.int .i64 a0_3) := (blk_cell BK440.out 3).trans rfl
      have hcz15_4 : w4.cell? ⟨gb440, 4, none⟩ = some (.int .i64 a0_4) := (blk_cell BK440.out 4).trans rfl
      have hcz15_5 : w4.cell? ⟨gb440, 5, none⟩ = some (.int .i64 a0_5) := (blk_cell BK440.out 5).trans rfl
      have hcz15_6 : w4.cell? ⟨gb440, 6, none⟩ = some (.int .i64 a0_6) := (blk_cell BK440.out 6).trans rfl
      have hcz15_7 : w4.cell? ⟨gb440, 7, none⟩ = some (.int .i64 a0_7) := (blk_cell BK440.out 7).trans rfl
      have hfz15_0 := blk_frozen BK440.out 0
      have hfz15_1 := blk_frozen BK440.out 1
      have hfz15_2 := blk_frozen BK440.out 2
      have hfz15_3 := blk_frozen BK440.out 3
      have hfz15_4 := blk_frozen BK440.out 4
      have hfz15_5 := blk_frozen BK440.out 5
      have hfz15_6 := blk_frozen BK440.out 6
      have hfz15_7 := blk_frozen BK440.out 7
      go_wp2_with (first | ((with_reducible refine gate_callee (f := 10) rfl ?_); refine goesL_ (some 8) rfl rfl Try.func10 (by kernel_rfl) rfl #[.agg #[.int .i64 a0_0, .int .i64 a0_1, .int .i64 a0_2, .int .i64 a0_3, .int .i64 a0_4, .int .i64 a0_5, .int .i64 a0_6, .int .i64 a0_7]] rfl (by (try simp only [List.map_toArray, List.map_cons, List.map_nil]); first | done | rfl | (simp only [List.length_drop, List.length_take]; rfl)) ?_; (with_reducible refine (rate_Check.calls k a0_0 a0_1 a0_2 a0_3 a0_4 a0_5 a0_6 a0_7 t441 _ A5.out).mono ?_); rintro e w16 ⟨rfl, hb⟩; refine ⟨_, rfl, ?_⟩; have n0_ := Aside0.mk (blk_below (g := gb440) (o := .cells #[.int .i64 a0_0, .int .i64 a0_1, .int .i64 a0_2, .int .i64 a0_3, .int .i64 a0_4, .int .i64 a0_5, .int .i64 a0_6, .int .i64 a0_7] 23 (0, 0)) (by (with_reducible repeat (first | refine blk_drewN ?_ _ | refine blk_drew ?_ | refine blk_alloc ?_ _)); exact BK440.out) hb); have n1_ := Aside0.mk (below_step (by repeat (first | (with_reducible first | exact HB.out | apply below_alloc | apply pw_below_drewN | apply below_drew1 | refine below_set ?_ GE440.out) | exact HB.out)) hb); clear BK440; clear HB; have BK440 := n0_; have HB := n1_; clear n0_ n1_; (try clear hb); (try clear hb2); (try clear hk); (try clear hi)) | ((with_reducible refine gate_callee (f := 9) rfl ?_); refine goesL_ (some 9) rfl rfl Try.func9 (by kernel_rfl) rfl #[.int .i64 t441] rfl (by (try simp only [List.map_toArray, List.map_cons, List.map_nil]); first | done | rfl | (simp only [List.length_drop, List.length_take]; rfl)) ?_; (with_reducible refine (wharflaw19_num.calls t441 t442 _ A6.out).mono ?_); rintro e w' ⟨rfl, ⟨nd, rfl⟩⟩; refine ⟨_, rfl, ?_⟩))
      go_meet
      case rel => exact ⟨_, (true), (by first | rfl | (simp; done) | (simp [*]; done)), H', ⟨by first | omega | exact Nat.le_refl _⟩, ⟨by (with_reducible repeat (first | refine blk_drewN ?_ _ | refine blk_drew ?_ | refine blk_alloc ?_ _)); exact BK440.out⟩, ⟨by repeat (first | (with_reducible first | exact HB.out | apply below_alloc | apply pw_below_drewN | apply below_drew1 | refine below_set ?_ GE440.out) | exact HB.out)⟩⟩
  case rest =>
    clear HC3
    try clear c1
    try clear p2
    try clear c5
    try clear c7
    try clear c7b0
    try clear c7b1
    try clear c8
    try clear c8b0
    try clear c9
    try clear c10
    try clear hcz11_0
    try clear hcz11_1
    try clear hcz11_2
    try clear hcz11_3
    try clear hcz11_4
    try clear hcz11_5
    try clear hcz11_6
    try clear hcz11_7
    try clear hcz12_0
    try clear hcz12_1
    try clear hcz12_2
    try clear hcz12_3
    try clear hcz12_4
    try clear hcz12_5
    try clear hcz12_6
    try clear hcz12_7
    try clear hcz14_0
    try clear hcz14_1
    try clear hcz14_2
    try clear hcz14_3
    try clear hcz14_4
    try clear hcz14_5
    try clear hcz14_6
    try clear hcz14_7
    try clear hcz15_0
    try clear hcz15_1
    try clear hcz15_2
    try clear hcz15_3
    try clear hcz15_4
    try clear hcz15_5
    try clear hcz15_6
    try clear hcz15_7
    try clear hcz9_0
    try clear hcz9_1
    try clear hcz9_2
    try clear hcz9_3
    try clear hcz9_4
    try clear hcz9_5
    try clear hcz9_6
    try clear hcz9_7
    try clear hfz11_0
    try clear hfz11_1
    try clear hfz11_2
    try clear hfz11_3
    try clear hfz11_4
    try clear hfz11_5
    try clear hfz11_6
    try clear hfz11_7
    try clear hfz12_0
    try clear hfz12_1
    try clear hfz12_2
    try clear hfz12_3
    try clear hfz12_4
    try clear hfz12_5
    try clear hfz12_6
    try clear hfz12_7
    try clear hfz14_0
    try clear hfz14_1
    try clear hfz14_2
    try clear hfz14_3
    try clear hfz14_4
    try clear hfz14_5
    try clear hfz14_6
    try clear hfz14_7
    try clear hfz15_0
    try clear hfz15_1
    try clear hfz15_2
    try clear hfz15_3
    try clear hfz15_4
    try clear hfz15_5
    try clear hfz15_6
    try clear hfz15_7
    try clear hfz9_0
    try clear hfz9_1
    try clear hfz9_2
    try clear hfz9_3
    try clear hfz9_4
    try clear hfz9_5
    try clear hfz9_6
    try clear hfz9_7
    obtain ⟨kq, x22_2, rfl, HA, HJ2, BK440, HB⟩ := hcut
    cases kq with
    | zero => exact absurd HA.out (by simp [wharflaw19_RateNever.j0])
    | succ kj2 =>
      have H := HA.out
      clear HA
      simp only [wharflaw19_RateNever.j0] at H
      by_cases c17 : x22_2 = true
      · subst c17
        have H1 : ((wharflaw19_live.f kj2).bind fun t443 => (some t443)) = some r := by rw [if_pos rfl] at H; exact H
        clear H
        have H := H1
        clear H1
        replace H := Option.bind_eq_some_iff.mp H
        obtain ⟨t443, A180, H⟩ := H
        replace H : (some t443) = some r := H
        have A18 := Aside0.mk A180
        clear A180
        obtain rfl := Option.some.inj H
        go_wp2_with (first | ((with_reducible refine gate_callee (f := 13) rfl ?_); refine goesL_ (some 23) rfl rfl Try.func13 (by kernel_rfl) rfl #[] rfl (by (try simp only [List.map_toArray, List.map_cons, List.map_nil]); first | done | rfl | (simp only [List.length_drop, List.length_take]; rfl)) ?_; (with_reducible refine (wharflaw19_live.calls kj2  t443 _ A18.out).mono ?_); rintro e w19 ⟨rfl, hb⟩; refine ⟨_, rfl, ?_⟩; have n0_ := Aside0.mk (blk_below (g := gb440) (o := .cells #[.int .i64 a0_0, .int .i64 a0_1, .int .i64 a0_2, .int .i64 a0_3, .int .i64 a0_4, .int .i64 a0_5, .int .i64 a0_6, .int .i64 a0_7] 23 (0, 0)) (by (with_reducible repeat (first | refine blk_drewN ?_ _ | refine blk_drew ?_ | refine blk_alloc ?_ _)); exact BK440.out) hb); have n1_ := Aside0.mk (below_step (by repeat (first | (with_reducible first | exact HB.out | apply below_alloc | apply pw_below_drewN | apply below_drew1 | refine below_set ?_ GE440.out) | exact HB.out)) hb); clear BK440; clear HB; have BK440 := n0_; have HB := n1_; clear n0_ n1_; (try clear hb); (try clear hb2); (try clear hk); (try clear hi)))
        go_ret
        exact ⟨by first | rfl | (simp [errW_none, errW_some] <;> rfl) | (simp [*, errW_none, errW_some] <;> rfl), by repeat (first | (with_reducible first | exact HB.out | apply below_alloc | apply pw_below_drewN | apply below_drew1 | refine below_set ?_ GE440.out) | exact HB.out)⟩
      · replace c17 := Bool.eq_false_iff.mpr c17
        subst c17
        have H1 : (wharflaw19_RateNever.l0 kj2 l1 0 a0_0 a0_1 a0_2 a0_3 a0_4 a0_5 a0_6 a0_7 ([] : List (S41))) = some r := by rw [if_neg (show ¬ (false = true) by decide)] at H; exact H
        clear H
        have H := H1
        clear H1
        have H' := Aside0.mk H
        clear H
        have hcz20_0 : wc.cell? ⟨gb440, 0, none⟩ = some (.int .i64 a0_0) := (blk_cell BK440.out 0).trans rfl
        have hcz20_1 : wc.cell? ⟨gb440, 1, none⟩ = some (.int .i64 a0_1) := (blk_cell BK440.out 1).trans rfl
        have hcz20_2 : wc.cell? ⟨gb440, 2, none⟩ = some (.int .i64 a0_2) := (blk_cell BK440.out 2).trans rfl
        have hcz20_3 : wc.cell? ⟨gb440, 3, none⟩ = some (.int .i64 a0_3) := (blk_cell BK440.out 3).trans rfl
        have hcz20_4 : wc.cell? ⟨gb440, 4, none⟩ = some (.int .i64 a0_4) := (blk_cell BK440.out 4).trans rfl
        have hcz20_5 : wc.cell? ⟨gb440, 5, none⟩ = some (.int .i64 a0_5) := (blk_cell BK440.out 5).trans rfl
        have hcz20_6 : wc.cell? ⟨gb440, 6, none⟩ = some (.int .i64 a0_6) := (blk_cell BK440.out 6).trans rfl
        have hcz20_7 : wc.cell? ⟨gb440, 7, none⟩ = some (.int .i64 a0_7) := (blk_cell BK440.out 7).trans rfl
        have hfz20_0 := blk_frozen BK440.out 0
        have hfz20_1 := blk_frozen BK440.out 1
        have hfz20_2 := blk_frozen BK440.out 2
        have hfz20_3 := blk_frozen BK440.out 3
        have hfz20_4 := blk_frozen BK440.out 4
        have hfz20_5 := blk_frozen BK440.out 5
        have hfz20_6 := blk_frozen BK440.out 6
        have hfz20_7 := blk_frozen BK440.out 7
        go_wp2_with (first | ((with_reducible refine gate_dst (N := 5) rfl ?_); (try (refine gate_guard (by rfl) ?_; dsimp only)); refine box_event ?hg (N := 5) ?hd (cs := #[.int .i64 0, .int .i64 0, .int .i64 0, .int .i64 0, .int .i64 0, .int .i64 0, .int .i64 0, .int .i64 0, .slice none 0 0]) (t := 36) ?hr ?_; (case hd => rfl); (case hg => rfl); (case hr => first | (go_simp; done) | (go_simp; rfl)); intro gb444 hg w21 hbox hb; have n0_ := Aside0.mk (blk_below (g := gb440) (o := .cells #[.int .i64 a0_0, .int .i64 a0_1, .int .i64 a0_2, .int .i64 a0_3, .int .i64 a0_4, .int .i64 a0_5, .int .i64 a0_6, .int .i64 a0_7] 23 (0, 0)) (by (with_reducible repeat (first | refine blk_drewN ?_ _ | refine blk_drew ?_ | refine blk_alloc ?_ _)); exact BK440.out) hb); have n1_ := Aside0.mk (below_step (by repeat (first | (with_reducible first | exact HB.out | apply below_alloc | apply pw_below_drewN | apply below_drew1 | refine below_set ?_ GE440.out) | exact HB.out)) hb); have n2_ := Aside0.mk (hbox); have n3_ := Aside0.mk ((by rw [hg]; exact (below_size (by repeat (first | (with_reducible first | exact HB.out | apply below_alloc | apply pw_below_drewN | apply below_drew1 | refine below_set ?_ GE440.out) | exact HB.out))) : w.heap.size ≤ gb444)); have n4_ := Aside0.mk ((by rw [hg]; exact (below_size (by repeat (first | (with_reducible first | exact HB.out | apply below_alloc | apply pw_below_drewN | apply below_drew1 | refine below_set ?_ GE440.out) | exact HB.out))) : w.heap.size ≤ gb444)); have n5_ := Aside0.mk ((by rw [hg]; exact Nat.ne_of_lt (blk_lt (g := gb440) (o := .cells #[.int .i64 a0_0, .int .i64 a0_1, .int .i64 a0_2, .int .i64 a0_3, .int .i64 a0_4, .int .i64 a0_5, .int .i64 a0_6, .int .i64 a0_7] 23 (0, 0)) (by (with_reducible repeat (first | refine blk_drewN ?_ _ | refine blk_drew ?_ | refine blk_alloc ?_ _)); exact BK440.out)) : gb440 ≠ gb444)); have n6_ := Aside0.mk ((by rw [hg]; exact Nat.ne_of_gt (blk_lt (g := gb440) (o := .cells #[.int .i64 a0_0, .int .i64 a0_1, .int .i64 a0_2, .int .i64 a0_3, .int .i64 a0_4, .int .i64 a0_5, .int .i64 a0_6, .int .i64 a0_7] 23 (0, 0)) (by (with_reducible repeat (first | refine blk_drewN ?_ _ | refine blk_drew ?_ | refine blk_alloc ?_ _)); exact BK440.out)) : gb444 ≠ gb440)); clear BK440; clear HB; have BK440 := n0_; have HB := n1_; have BK444 := n2_; have GW444 := n3_; have GE444 := n4_; have NB440_444 := n5_; have NB444_440 := n6_; clear n0_ n1_ n2_ n3_ n4_ n5_ n6_; clear hb hbox hg; have hnb22 := NB444_440.out; have hnc22 := NB440_444.out; have hcz23_0 : w21.cell? ⟨gb444, 0, none⟩ = some (.int .i64 0) := (blk_cell BK444.out 0).trans rfl; have hcz23_1 : w21.cell? ⟨gb444, 1, none⟩ = some (.int .i64 0) := (blk_cell BK444.out 1).trans rfl; have hcz23_2 : w21.cell? ⟨gb444, 2, none⟩ = some (.int .i64 0) := (blk_cell BK444.out 2).trans rfl; have hcz23_3 : w21.cell? ⟨gb444, 3, none⟩ = some (.int .i64 0) := (blk_cell BK444.out 3).trans rfl; have hcz23_4 : w21.cell? ⟨gb444, 4, none⟩ = some (.int .i64 0) := (blk_cell BK444.out 4).trans rfl; have hcz23_5 : w21.cell? ⟨gb444, 5, none⟩ = some (.int .i64 0) := (blk_cell BK444.out 5).trans rfl; have hcz23_6 : w21.cell? ⟨gb444, 6, none⟩ = some (.int .i64 0) := (blk_cell BK444.out 6).trans rfl; have hcz23_7 : w21.cell? ⟨gb444, 7, none⟩ = some (.int .i64 0) := (blk_cell BK444.out 7).trans rfl; have hcz23_8 : w21.cell? ⟨gb444, 8, none⟩ = some (.slice none 0 0) := (blk_cell BK444.out 8).trans rfl; have hfz23_0 := blk_frozen BK444.out 0; have hfz23_1 := blk_frozen BK444.out 1; have hfz23_2 := blk_frozen BK444.out 2; have hfz23_3 := blk_frozen BK444.out 3; have hfz23_4 := blk_frozen BK444.out 4; have hfz23_5 := blk_frozen BK444.out 5; have hfz23_6 := blk_frozen BK444.out 6; have hfz23_7 := blk_frozen BK444.out 7; have hfz23_8 := blk_frozen BK444.out 8))
        go_loopg [6] kj2 (fun kq v6 w' => ∃ (x6_2 : Int) (x445000_2 : Int) (x445001_2 : Int) (x445002_2 : Int) (x445003_2 : Int) (x445004_2 : Int) (x445005_2 : Int) (x445006_2 : Int) (x445007_2 : Int) (x445008_2 : List (S41)) (u445008 : Value), v6 = .int .i64 x6_2 ∧ Aside0 (wharflaw19_RateNever.l0 kq l1 x6_2 x445000_2 x445001_2 x445002_2 x445003_2 x445004_2 x445005_2 x445006_2 x445007_2 x445008_2 = some r) ∧ Aside0 (kq ≤ kj2) ∧ Aside0 (Kd.V k41 41 w' w.heap.size (fun k_ => k_ ≠ gb440 ∧ k_ ≠ gb444) u445008 x445008_2) ∧ Aside0 (w'.heap[gb440]? = some (.cells #[.int .i64 a0_0, .int .i64 a0_1, .int .i64 a0_2, .int .i64 a0_3, .int .i64 a0_4, .int .i64 a0_5, .int .i64 a0_6, .int .i64 a0_7] 23 (0, 0))) ∧ Aside0 (w'.heap[gb444]? = some (.cells #[.int .i64 x445000_2, .int .i64 x445001_2, .int .i64 x445002_2, .int .i64 x445003_2, .int .i64 x445004_2, .int .i64 x445005_2, .int .i64 x445006_2, .int .i64 x445007_2, u445008] 36 (0, 0))) ∧ Aside0 (Below w.heap.size w w'))
        case atStart => exact ⟨(0), (a0_0), (a0_1), (a0_2), (a0_3), (a0_4), (a0_5), (a0_6), (a0_7), (([] : List (S41))), (.slice none 0 0), (by first | rfl | (simp; done) | (simp [*]; done)), H', ⟨Nat.le_refl _⟩, ⟨Kd.V_nil _ _ _ _ _⟩, ⟨by (with_reducible repeat (first | refine blk_drewN ?_ _ | refine blk_drew ?_ | refine blk_alloc ?_ _)); (iterate 9 (refine blk_far ?_ NB440_444.out _; (with_reducible repeat (first | refine blk_drewN ?_ _ | refine blk_drew ?_ | refine blk_alloc ?_ _)))); exact BK440.out⟩, ⟨by (with_reducible repeat (first | refine blk_drewN ?_ _ | refine blk_drew ?_ | refine blk_alloc ?_ _)); refine blk_put (cs := #[.int .i64 a0_0, .int .i64 a0_1, .int .i64 a0_2, .int .i64 a0_3, .int .i64 a0_4, .int .i64 a0_5, .int .i64 a0_6, .int .i64 a0_7, .slice none 0 0]) ?_ 8 _ rfl; (with_reducible repeat (first | refine blk_drewN ?_ _ | refine blk_drew ?_ | refine blk_alloc ?_ _)); refine blk_put (cs := #[.int .i64 a0_0, .int .i64 a0_1, .int .i64 a0_2, .int .i64 a0_3, .int .i64 a0_4, .int .i64 a0_5, .int .i64 a0_6, .int .i64 0, .slice none 0 0]) ?_ 7 _ rfl; (with_reducible repeat (first | refine blk_drewN ?_ _ | refine blk_drew ?_ | refine blk_alloc ?_ _)); refine blk_put (cs := #[.int .i64 a0_0, .int .i64 a0_1, .int .i64 a0_2, .int .i64 a0_3, .int .i64 a0_4, .int .i64 a0_5, .int .i64 0, .int .i64 0, .slice none 0 0]) ?_ 6 _ rfl; (with_reducible repeat (first | refine blk_drewN ?_ _ | refine blk_drew ?_ | refine blk_alloc ?_ _)); refine blk_put (cs := #[.int .i64 a0_0, .int .i64 a0_1, .int .i64 a0_2, .int .i64 a0_3, .int .i64 a0_4, .int .i64 0, .int .i64 0, .int .i64 0, .slice none 0 0]) ?_ 5 _ rfl; (with_reducible repeat (first | refine blk_drewN ?_ _ | refine blk_drew ?_ | refine blk_alloc ?_ _)); refine blk_put (cs := #[.int .i64 a0_0, .int .i64 a0_1, .int .i64 a0_2, .int .i64 a0_3, .int .i64 0, .int .i64 0, .int .i64 0, .int .i64 0, .slice none 0 0]) ?_ 4 _ rfl; (with_reducible repeat (first | refine blk_drewN ?_ _ | refine blk_drew ?_ | refine blk_alloc ?_ _)); refine blk_put (cs := #[.int .i64 a0_0, .int .i64 a0_1, .int .i64 a0_2, .int .i64 0, .int .i64 0, .int .i64 0, .int .i64 0, .int .i64 0, .slice none 0 0]) ?_ 3 _ rfl; (with_reducible repeat (first | refine blk_drewN ?_ _ | refine blk_drew ?_ | refine blk_alloc ?_ _)); refine blk_put (cs := #[.int .i64 a0_0, .int .i64 a0_1, .int .i64 0, .int .i64 0, .int .i64 0, .int .i64 0, .int .i64 0, .int .i64 0, .slice none 0 0]) ?_ 2 _ rfl; (with_reducible repeat (first | refine blk_drewN ?_ _ | refine blk_drew ?_ | refine blk_alloc ?_ _)); refine blk_put (cs := #[.int .i64 a0_0, .int .i64 0, .int .i64 0, .int .i64 0, .int .i64 0, .int .i64 0, .int .i64 0, .int .i64 0, .slice none 0 0]) ?_ 1 _ rfl; (with_reducible repeat (first | refine blk_drewN ?_ _ | refine blk_drew ?_ | refine blk_alloc ?_ _)); refine blk_put (cs := #[.int .i64 0, .int .i64 0, .int .i64 0, .int .i64 0, .int .i64 0, .int .i64 0, .int .i64 0, .int .i64 0, .slice none 0 0]) ?_ 0 _ rfl; (with_reducible repeat (first | refine blk_drewN ?_ _ | refine blk_drew ?_ | refine blk_alloc ?_ _)); exact BK444.out⟩, ⟨by repeat (first | (with_reducible first | exact HB.out | apply below_alloc | apply pw_below_drewN | apply below_drew1 | refine below_set ?_ GE440.out | refine below_set ?_ GE444.out) | exact HB.out)⟩⟩
        case round =>
          clear H'
          try clear c1
          try clear c2
          try clear p2
          try clear c5
          try clear c7
          try clear c7b0
          try clear c7b1
          try clear c8
          try clear c8b0
          try clear c9
          try clear c10
          try clear c13
          try clear c17
          try clear c22
          try clear hcz11_0
          try clear hcz11_1
          try clear hcz11_2
          try clear hcz11_3
          try clear hcz11_4
          try clear hcz11_5
          try clear hcz11_6
          try clear hcz11_7
          try clear hcz12_0
          try clear hcz12_1
          try clear hcz12_2
          try clear hcz12_3
          try clear hcz12_4
          try clear hcz12_5
          try clear hcz12_6
          try clear hcz12_7
          try clear hcz14_0
          try clear hcz14_1
          try clear hcz14_2
          try clear hcz14_3
          try clear hcz14_4
          try clear hcz14_5
          try clear hcz14_6
          try clear hcz14_7
          try clear hcz15_0
          try clear hcz15_1
          try clear hcz15_2
          try clear hcz15_3
          try clear hcz15_4
          try clear hcz15_5
          try clear hcz15_6
          try clear hcz15_7
          try clear hcz20_0
          try clear hcz20_1
          try clear hcz20_2
          try clear hcz20_3
          try clear hcz20_4
          try clear hcz20_5
          try clear hcz20_6
          try clear hcz20_7
          try clear hcz23_0
          try clear hcz23_1
          try clear hcz23_2
          try clear hcz23_3
          try clear hcz23_4
          try clear hcz23_5
          try clear hcz23_6
          try clear hcz23_7
          try clear hcz23_8
          try clear hcz9_0
          try clear hcz9_1
          try clear hcz9_2
          try clear hcz9_3
          try clear hcz9_4
          try clear hcz9_5
          try clear hcz9_6
          try clear hcz9_7
          try clear hfz11_0
          try clear hfz11_1
          try clear hfz11_2
          try clear hfz11_3
          try clear hfz11_4
          try clear hfz11_5
          try clear hfz11_6
          try clear hfz11_7
          try clear hfz12_0
          try clear hfz12_1
          try clear hfz12_2
          try clear hfz12_3
          try clear hfz12_4
          try clear hfz12_5
          try clear hfz12_6
          try clear hfz12_7
          try clear hfz14_0
          try clear hfz14_1
          try clear hfz14_2
          try clear hfz14_3
          try clear hfz14_4
          try clear hfz14_5
          try clear hfz14_6
          try clear hfz14_7
          try clear hfz15_0
          try clear hfz15_1
          try clear hfz15_2
          try clear hfz15_3
          try clear hfz15_4
          try clear hfz15_5
          try clear hfz15_6
          try clear hfz15_7
          try clear hfz20_0
          try clear hfz20_1
          try clear hfz20_2
          try clear hfz20_3
          try clear hfz20_4
          try clear hfz20_5
          try clear hfz20_6
          try clear hfz20_7
          try clear hfz23_0
          try clear hfz23_1
          try clear hfz23_2
          try clear hfz23_3
          try clear hfz23_4
          try clear hfz23_5
          try clear hfz23_6
          try clear hfz23_7
          try clear hfz23_8
          try clear hfz9_0
          try clear hfz9_1
          try clear hfz9_2
          try clear hfz9_3
          try clear hfz9_4
          try clear hfz9_5
          try clear hfz9_6
          try clear hfz9_7
          try clear p2
          obtain ⟨x6_2, x445000_2, x445001_2, x445002_2, x445003_2, x445004_2, x445005_2, x445006_2, x445007_2, x445008_2, u445008, rfl, HA, HK2, HO_445008, BK440, BK444, HB⟩ := hrel
          cases gk with
          | zero => exact absurd HA.out (by simp [wharflaw19_RateNever.l0])
          | succ k2 =>
            have H := HA.out
            clear HA
            simp only [wharflaw19_RateNever.l0] at H
            by_cases c24 : x6_2 < (l1.length : Int)
            · rw [if_pos c24] at H
              have c24b0 : decide (x6_2 < (l1.length : Int)) = true := decide_eq_true c24
              clear c24
              have HC25 := Aside0.mk H
              clear H
              go_upto_region 7 with (fail)
              go_cut [47] (fun v47 wc => ∃ (kq : Nat) (x47_24 : Bool), v47 = .bool x47_24 ∧ Aside0 (wharflaw19_RateNever.j2 kq l1 x6_2 x47_24 x445000_2 x445001_2 x445002_2 x445003_2 x445004_2 x445005_2 x445006_2 x445007_2 x445008_2 = some r) ∧ Aside0 (kq ≤ k2) ∧ Aside0 (Kd.V k41 41 wc w.heap.size (fun k_ => k_ ≠ gb440 ∧ k_ ≠ gb444) u445008 x445008_2) ∧ Aside0 (wc.heap[gb440]? = some (.cells #[.int .i64 a0_0, .int .i64 a0_1, .int .i64 a0_2, .int .i64 a0_3, .int .i64 a0_4, .int .i64 a0_5, .int .i64 a0_6, .int .i64 a0_7] 23 (0, 0))) ∧ Aside0 (wc.heap[gb444]? = some (.cells #[.int .i64 x445000_2, .int .i64 x445001_2, .int .i64 x445002_2, .int .i64 x445003_2, .int .i64 x445004_2, .int .i64 x445005_2, .int .i64 x445006_2, .int .i64 x445007_2, u445008] 36 (0, 0))) ∧ Aside0 (Below w.heap.size w wc))
              case first =>
                have H := HC25.out
                clear HC25
                by_cases c26 : 0 ≤ x6_2
                · rw [if_pos c26] at H
                  have c26b0 : decide (0 ≤ x6_2) = true := decide_eq_true c26
                  clear c26
                  (first | rw [c26b0] | (simp only [i64_w, i32_w]; rw [c26b0]) | skip)
                  replace H := Option.bind_eq_some_iff.mp H
                  obtain ⟨t447, A270, H⟩ := H
                  replace H : (if t447 > 2000 then (wharflaw19_RateNever.j2 k2 l1 x6_2 true x445000_2 x445001_2 x445002_2 x445003_2 x445004_2 x445005_2 x445006_2 x445007_2 x445008_2) else ((wharflaw19_time.f ((rd_T43 l1 x6_2).f2)).bind fun t449 => (wharflaw19_RateNever.j2 k2 l1 x6_2 (!t449) x445000_2 x445001_2 x445002_2 x445003_2 x445004_2 x445005_2 x445006_2 x445007_2 x445008_2))) = some r := H
                  have A27 := Aside0.mk A270
                  clear A270
                  by_cases c28 : t447 > 2000
                  · rw [if_pos c28] at H
                    have c28b0 : decide (2000 < t447) = true := decide_eq_true c28
                    clear c28
                    have H' := Aside0.mk H
                    clear H
                    have p446 : 0 ≤ (x6_2 : Int) := of_decide_eq_true (by first | (with_reducible assumption) | assumption)
                    have q446 : x6_2 < (l1.length : Int) := of_decide_eq_true (by first | (with_reducible assumption) | assumption)
                    obtain ⟨ad446, A446_10, c446_10, A446_11, c446_11, e446, hx446_0, hx446_1, hx446_2, hx446_3, hx446_4, hx446_5, hx446_6, hx446_7, hx446_8, hx446_9, hx446_10, hx446_11, hx446_12, hl446_10, hi446_10, hl446_11, hi446_11⟩ := at_T43 HR1.out x6_2 p446 q446
                    cases e446
                    replace hx446_0 := (HB.out.cell (World.block_lt_of_cell? w _ hx446_0)).trans hx446_0
                    replace hx446_1 := (HB.out.cell (World.block_lt_of_cell? w _ hx446_1)).trans hx446_1
                    replace hx446_2 := (HB.out.cell (World.block_lt_of_cell? w _ hx446_2)).trans hx446_2
                    replace hx446_3 := (HB.out.cell (World.block_lt_of_cell? w _ hx446_3)).trans hx446_3
                    replace hx446_4 := (HB.out.cell (World.block_lt_of_cell? w _ hx446_4)).trans hx446_4
                    replace hx446_5 := (HB.out.cell (World.block_lt_of_cell? w _ hx446_5)).trans hx446_5
                    replace hx446_6 := (HB.out.cell (World.block_lt_of_cell? w _ hx446_6)).trans hx446_6
                    replace hx446_7 := (HB.out.cell (World.block_lt_of_cell? w _ hx446_7)).trans hx446_7
                    replace hx446_8 := (HB.out.cell (World.block_lt_of_cell? w _ hx446_8)).trans hx446_8
                    replace hx446_9 := (HB.out.cell (World.block_lt_of_cell? w _ hx446_9)).trans hx446_9
                    replace hx446_10 := (HB.out.cell (World.block_lt_of_cell? w _ hx446_10)).trans hx446_10
                    replace hx446_11 := (HB.out.cell (World.block_lt_of_cell? w _ hx446_11)).trans hx446_11
                    replace hx446_12 := (HB.out.cell (World.block_lt_of_cell? w _ hx446_12)).trans hx446_12
                    have HR446_10 := Aside0.mk hi446_10
                    have HC446_10 := Aside0.mk hl446_10
                    clear hi446_10 hl446_10
                    have HR446_11 := Aside0.mk hi446_11
                    have HC446_11 := Aside0.mk hl446_11
                    clear hi446_11 hl446_11
                    replace p446 := eq_true p446
                    replace q446 := eq_true q446
                    go_wp2_with (first | ((with_reducible refine gate_callee (f := 22) rfl ?_); refine goesL_ (some 37) rfl rfl Try.func22 (by kernel_rfl) rfl #[.agg #[.int .i64 ((rd_T43 l1 x6_2).f1.f0), .string ((rd_T43 l1 x6_2).f1.f1), .string ((rd_T43 l1 x6_2).f1.f2), .string ((rd_T43 l1 x6_2).f1.f3), .int .i64 ((rd_T43 l1 x6_2).f1.f4), .int .i64 ((rd_T43 l1 x6_2).f1.f5), .int .i64 ((rd_T43 l1 x6_2).f1.f6), .int .i64 ((rd_T43 l1 x6_2).f1.f7), .bool ((rd_T43 l1 x6_2).f1.f8), .slice A446_10 ((rd_T43 l1 x6_2).f1.f9).length c446_10, .slice A446_11 ((rd_T43 l1 x6_2).f1.f10).length c446_11]] rfl (by (try simp only [List.map_toArray, List.map_cons, List.map_nil]); first | done | rfl | (simp only [List.length_drop, List.length_take]; rfl)) ?_; (with_reducible refine (wharflaw19_note.calls k2 ((rd_T43 l1 x6_2).f1.f0) ((rd_T43 l1 x6_2).f1.f1) ((rd_T43 l1 x6_2).f1.f2) ((rd_T43 l1 x6_2).f1.f3) ((rd_T43 l1 x6_2).f1.f4) ((rd_T43 l1 x6_2).f1.f5) ((rd_T43 l1 x6_2).f1.f6) ((rd_T43 l1 x6_2).f1.f7) ((rd_T43 l1 x6_2).f1.f8) _ _ ((rd_T43 l1 x6_2).f1.f9) _ _ ((rd_T43 l1 x6_2).f1.f10) t447 _ ?side1 ?side2 ?side3 ?side4 A27.out).mono ?_); (case side1 => repeat (first | exact (Kd.C_below HR446_10.out HB.out) | (with_reducible refine Kd.C_alloc ?_ _) | (with_reducible refine Kd.C_drewN ?_ _) | (with_reducible refine Kd.C_drew ?_))); (case side2 => exact HC446_10.out); (case side3 => repeat (first | exact (Kd.C_below HR446_11.out HB.out) | (with_reducible refine Kd.C_alloc ?_ _) | (with_reducible refine Kd.C_drewN ?_ _) | (with_reducible refine Kd.C_drew ?_))); (case side4 => exact HC446_11.out); rintro e w29 ⟨rfl, hb⟩; refine ⟨_, rfl, ?_⟩; have n0_ := Aside0.mk (Kd.V_below (by (with_reducible repeat (first | apply Kd.V_alloc | apply Kd.V_drewN | apply Kd.V_drew)); exact HO_445008.out) hb); have n1_ := Aside0.mk (blk_below (g := gb440) (o := .cells #[.int .i64 a0_0, .int .i64 a0_1, .int .i64 a0_2, .int .i64 a0_3, .int .i64 a0_4, .int .i64 a0_5, .int .i64 a0_6, .int .i64 a0_7] 23 (0, 0)) (by (with_reducible repeat (first | refine blk_drewN ?_ _ | refine blk_drew ?_ | refine blk_alloc ?_ _)); exact BK440.out) hb); have n2_ := Aside0.mk (blk_below (g := gb444) (o := .cells #[.int .i64 x445000_2, .int .i64 x445001_2, .int .i64 x445002_2, .int .i64 x445003_2, .int .i64 x445004_2, .int .i64 x445005_2, .int .i64 x445006_2, .int .i64 x445007_2, u445008] 36 (0, 0)) (by (with_reducible repeat (first | refine blk_drewN ?_ _ | refine blk_drew ?_ | refine blk_alloc ?_ _)); exact BK444.out) hb); have n3_ := Aside0.mk (below_step (by repeat (first | (with_reducible first | exact HB.out | apply below_alloc | apply pw_below_drewN | apply below_drew1 | refine below_set ?_ GE440.out | refine below_set ?_ GE444.out) | exact HB.out)) hb); clear HO_445008; clear BK440; clear BK444; clear HB; have HO_445008 := n0_; have BK440 := n1_; have BK444 := n2_; have HB := n3_; clear n0_ n1_ n2_ n3_; (try clear hb); (try clear hb2); (try clear hk); (try clear hi)))
                    go_meet
                    case rel => exact ⟨_, (true), (by first | rfl | (simp; done) | (simp [*]; done)), H', ⟨by have := HJ2.out; have := HK2.out; first | omega | exact Nat.le_refl _⟩, ⟨by (with_reducible repeat (first | apply Kd.V_alloc | apply Kd.V_drewN | apply Kd.V_drew)); exact HO_445008.out⟩, ⟨by (with_reducible repeat (first | refine blk_drewN ?_ _ | refine blk_drew ?_ | refine blk_alloc ?_ _)); exact BK440.out⟩, ⟨by (with_reducible repeat (first | refine blk_drewN ?_ _ | refine blk_drew ?_ | refine blk_alloc ?_ _)); exact BK444.out⟩, ⟨by repeat (first | (with_reducible first | exact HB.out | apply below_alloc | apply pw_below_drewN | apply below_drew1 | refine below_set ?_ GE440.out | refine below_set ?_ GE444.out) | exact HB.out)⟩⟩
                  · rw [if_neg c28] at H
                    have c28b0 : decide (2000 < t447) = false := decide_eq_false c28
                    clear c28
                    replace H := Option.bind_eq_some_iff.mp H
                    obtain ⟨t449, A300, H⟩ := H
                    replace H : (wharflaw19_RateNever.j2 k2 l1 x6_2 (!t449) x445000_2 x445001_2 x445002_2 x445003_2 x445004_2 x445005_2 x445006_2 x445007_2 x445008_2) = some r := H
                    have A30 := Aside0.mk A300
                    clear A300
                    have H' := Aside0.mk H
                    clear H
                    have p446 : 0 ≤ (x6_2 : Int) := of_decide_eq_true (by first | (with_reducible assumption) | assumption)
                    have q446 : x6_2 < (l1.length : Int) := of_decide_eq_true (by first | (with_reducible assumption) | assumption)
                    obtain ⟨ad446, A446_10, c446_10, A446_11, c446_11, e446, hx446_0, hx446_1, hx446_2, hx446_3, hx446_4, hx446_5, hx446_6, hx446_7, hx446_8, hx446_9, hx446_10, hx446_11, hx446_12, hl446_10, hi446_10, hl446_11, hi446_11⟩ := at_T43 HR1.out x6_2 p446 q446
                    cases e446
                    replace hx446_0 := (HB.out.cell (World.block_lt_of_cell? w _ hx446_0)).trans hx446_0
                    replace hx446_1 := (HB.out.cell (World.block_lt_of_cell? w _ hx446_1)).trans hx446_1
                    replace hx446_2 := (HB.out.cell (World.block_lt_of_cell? w _ hx446_2)).trans hx446_2
                    replace hx446_3 := (HB.out.cell (World.block_lt_of_cell? w _ hx446_3)).trans hx446_3
                    replace hx446_4 := (HB.out.cell (World.block_lt_of_cell? w _ hx446_4)).trans hx446_4
                    replace hx446_5 := (HB.out.cell (World.block_lt_of_cell? w _ hx446_5)).trans hx446_5
                    replace hx446_6 := (HB.out.cell (World.block_lt_of_cell? w _ hx446_6)).trans hx446_6
                    replace hx446_7 := (HB.out.cell (World.block_lt_of_cell? w _ hx446_7)).trans hx446_7
                    replace hx446_8 := (HB.out.cell (World.block_lt_of_cell? w _ hx446_8)).trans hx446_8
                    replace hx446_9 := (HB.out.cell (World.block_lt_of_cell? w _ hx446_9)).trans hx446_9
                    replace hx446_10 := (HB.out.cell (World.block_lt_of_cell? w _ hx446_10)).trans hx446_10
                    replace hx446_11 := (HB.out.cell (World.block_lt_of_cell? w _ hx446_11)).trans hx446_11
                    replace hx446_12 := (HB.out.cell (World.block_lt_of_cell? w _ hx446_12)).trans hx446_12
                    have HR446_10 := Aside0.mk hi446_10
                    have HC446_10 := Aside0.mk hl446_10
                    clear hi446_10 hl446_10
                    have HR446_11 := Aside0.mk hi446_11
                    have HC446_11 := Aside0.mk hl446_11
                    clear hi446_11 hl446_11
                    replace p446 := eq_true p446
                    replace q446 := eq_true q446
                    go_wp2_with (first | ((with_reducible refine gate_callee (f := 22) rfl ?_); refine goesL_ (some 37) rfl rfl Try.func22 (by kernel_rfl) rfl #[.agg #[.int .i64 ((rd_T43 l1 x6_2).f1.f0), .string ((rd_T43 l1 x6_2).f1.f1), .string ((rd_T43 l1 x6_2).f1.f2), .string ((rd_T43 l1 x6_2).f1.f3), .int .i64 ((rd_T43 l1 x6_2).f1.f4), .int .i64 ((rd_T43 l1 x6_2).f1.f5), .int .i64 ((rd_T43 l1 x6_2).f1.f6), .int .i64 ((rd_T43 l1 x6_2).f1.f7), .bool ((rd_T43 l1 x6_2).f1.f8), .slice A446_10 ((rd_T43 l1 x6_2).f1.f9).length c446_10, .slice A446_11 ((rd_T43 l1 x6_2).f1.f10).length c446_11]] rfl (by (try simp only [List.map_toArray, List.map_cons, List.map_nil]); first | done | rfl | (simp only [List.length_drop, List.length_take]; rfl)) ?_; (with_reducible refine (wharflaw19_note.calls k2 ((rd_T43 l1 x6_2).f1.f0) ((rd_T43 l1 x6_2).f1.f1) ((rd_T43 l1 x6_2).f1.f2) ((rd_T43 l1 x6_2).f1.f3) ((rd_T43 l1 x6_2).f1.f4) ((rd_T43 l1 x6_2).f1.f5) ((rd_T43 l1 x6_2).f1.f6) ((rd_T43 l1 x6_2).f1.f7) ((rd_T43 l1 x6_2).f1.f8) _ _ ((rd_T43 l1 x6_2).f1.f9) _ _ ((rd_T43 l1 x6_2).f1.f10) t447 _ ?side1 ?side2 ?side3 ?side4 A27.out).mono ?_); (case side1 => repeat (first | exact (Kd.C_below HR446_10.out HB.out) | (with_reducible refine Kd.C_alloc ?_ _) | (with_reducible refine Kd.C_drewN ?_ _) | (with_reducible refine Kd.C_drew ?_))); (case side2 => exact HC446_10.out); (case side3 => repeat (first | exact (Kd.C_below HR446_11.out HB.out) | (with_reducible refine Kd.C_alloc ?_ _) | (with_reducible refine Kd.C_drewN ?_ _) | (with_reducible refine Kd.C_drew ?_))); (case side4 => exact HC446_11.out); rintro e w31 ⟨rfl, hb⟩; refine ⟨_, rfl, ?_⟩; have n0_ := Aside0.mk (Kd.V_below (by (with_reducible repeat (first | apply Kd.V_alloc | apply Kd.V_drewN | apply Kd.V_drew)); exact HO_445008.out) hb); have n1_ := Aside0.mk (blk_below (g := gb440) (o := .cells #[.int .i64 a0_0, .int .i64 a0_1, .int .i64 a0_2, .int .i64 a0_3, .int .i64 a0_4, .int .i64 a0_5, .int .i64 a0_6, .int .i64 a0_7] 23 (0, 0)) (by (with_reducible repeat (first | refine blk_drewN ?_ _ | refine blk_drew ?_ | refine blk_alloc ?_ _)); exact BK440.out) hb); have n2_ := Aside0.mk (blk_below (g := gb444) (o := .cells #[.int .i64 x445000_2, .int .i64 x445001_2, .int .i64 x445002_2, .int .i64 x445003_2, .int .i64 x445004_2, .int .i64 x445005_2, .int .i64 x445006_2, .int .i64 x445007_2, u445008] 36 (0, 0)) (by (with_reducible repeat (first | refine blk_drewN ?_ _ | refine blk_drew ?_ | refine blk_alloc ?_ _)); exact BK444.out) hb); have n3_ := Aside0.mk (below_step (by repeat (first | (with_reducible first | exact HB.out | apply below_alloc | apply pw_below_drewN | apply below_drew1 | refine below_set ?_ GE440.out | refine below_set ?_ GE444.out) | exact HB.out)) hb); clear HO_445008; clear BK440; clear BK444; clear HB; have HO_445008 := n0_; have BK440 := n1_; have BK444 := n2_; have HB := n3_; clear n0_ n1_ n2_ n3_; (try clear hb); (try clear hb2); (try clear hk); (try clear hi); have p448 : 0 ≤ (x6_2 : Int) := of_decide_eq_true (by first | (with_reducible assumption) | assumption); have q448 : x6_2 < (l1.length : Int) := of_decide_eq_true (by first | (with_reducible assumption) | assumption); obtain ⟨ad448, A448_10, c448_10, A448_11, c448_11, e448, hx448_0, hx448_1, hx448_2, hx448_3, hx448_4, hx448_5, hx448_6, hx448_7, hx448_8, hx448_9, hx448_10, hx448_11, hx448_12, hl448_10, hi448_10, hl448_11, hi448_11⟩ := at_T43 HR1.out x6_2 p448 q448; obtain rfl : ad446 = ad448 := (by injection e448); replace hx448_0 := (HB.out.cell (World.block_lt_of_cell? w _ hx448_0)).trans hx448_0; replace hx448_1 := (HB.out.cell (World.block_lt_of_cell? w _ hx448_1)).trans hx448_1; replace hx448_2 := (HB.out.cell (World.block_lt_of_cell? w _ hx448_2)).trans hx448_2; replace hx448_3 := (HB.out.cell (World.block_lt_of_cell? w _ hx448_3)).trans hx448_3; replace hx448_4 := (HB.out.cell (World.block_lt_of_cell? w _ hx448_4)).trans hx448_4; replace hx448_5 := (HB.out.cell (World.block_lt_of_cell? w _ hx448_5)).trans hx448_5; replace hx448_6 := (HB.out.cell (World.block_lt_of_cell? w _ hx448_6)).trans hx448_6; replace hx448_7 := (HB.out.cell (World.block_lt_of_cell? w _ hx448_7)).trans hx448_7; replace hx448_8 := (HB.out.cell (World.block_lt_of_cell? w _ hx448_8)).trans hx448_8; replace hx448_9 := (HB.out.cell (World.block_lt_of_cell? w _ hx448_9)).trans hx448_9; replace hx448_10 := (HB.out.cell (World.block_lt_of_cell? w _ hx448_10)).trans hx448_10; replace hx448_11 := (HB.out.cell (World.block_lt_of_cell? w _ hx448_11)).trans hx448_11; replace hx448_12 := (HB.out.cell (World.block_lt_of_cell? w _ hx448_12)).trans hx448_12; have HR448_10 := Aside0.mk hi448_10; have HC448_10 := Aside0.mk hl448_10; clear hi448_10 hl448_10; have HR448_11 := Aside0.mk hi448_11; have HC448_11 := Aside0.mk hl448_11; clear hi448_11 hl448_11; replace p448 := eq_true p448; replace q448 := eq_true q448) | (go_at_call 12; (with_reducible refine (wharflaw19_time.calls ((rd_T43 l1 x6_2).f2) t449 _ A30.out).mono ?_); rintro e w' ⟨rfl, ⟨nd, rfl⟩⟩))
                    go_meet
                    case rel => exact ⟨_, (!t449), (by first | rfl | (simp; done) | (simp [*]; done)), H', ⟨by have := HJ2.out; have := HK2.out; first | omega | exact Nat.le_refl _⟩, ⟨by (with_reducible repeat (first | apply Kd.V_alloc | apply Kd.V_drewN | apply Kd.V_drew)); exact HO_445008.out⟩, ⟨by (with_reducible repeat (first | refine blk_drewN ?_ _ | refine blk_drew ?_ | refine blk_alloc ?_ _)); exact BK440.out⟩, ⟨by (with_reducible repeat (first | refine blk_drewN ?_ _ | refine blk_drew ?_ | refine blk_alloc ?_ _)); exact BK444.out⟩, ⟨by repeat (first | (with_reducible first | exact HB.out | apply below_alloc | apply pw_below_drewN | apply below_drew1 | refine below_set ?_ GE440.out | refine below_set ?_ GE444.out) | exact HB.out)⟩⟩
                · rw [if_neg c26] at H
                  exact absurd H (by simp)
              case rest =>
                clear HC25
                try clear c1
                try clear c2
                try clear p2
                try clear c4
                try clear p4
                try clear q4
                try clear hx4
                try clear c5
                try clear c7
                try clear c7b0
                try clear c7b1
                try clear c8
                try clear c8b0
                try clear c9
                try clear c10
                try clear c13
                try clear c17
                try clear c22
                try clear c24
                try clear c24b0
                try clear c26
                try clear c26b0
                try clear c28
                try clear c28b0
                try clear hcz11_0
                try clear hcz11_1
                try clear hcz11_2
                try clear hcz11_3
                try clear hcz11_4
                try clear hcz11_5
                try clear hcz11_6
                try clear hcz11_7
                try clear hcz12_0
                try clear hcz12_1
                try clear hcz12_2
                try clear hcz12_3
                try clear hcz12_4
                try clear hcz12_5
                try clear hcz12_6
                try clear hcz12_7
                try clear hcz14_0
                try clear hcz14_1
                try clear hcz14_2
                try clear hcz14_3
                try clear hcz14_4
                try clear hcz14_5
                try clear hcz14_6
                try clear hcz14_7
                try clear hcz15_0
                try clear hcz15_1
                try clear hcz15_2
                try clear hcz15_3
                try clear hcz15_4
                try clear hcz15_5
                try clear hcz15_6
                try clear hcz15_7
                try clear hcz20_0
                try clear hcz20_1
                try clear hcz20_2
                try clear hcz20_3
                try clear hcz20_4
                try clear hcz20_5
                try clear hcz20_6
                try clear hcz20_7
                try clear hcz23_0
                try clear hcz23_1
                try clear hcz23_2
                try clear hcz23_3
                try clear hcz23_4
                try clear hcz23_5
                try clear hcz23_6
                try clear hcz23_7
                try clear hcz23_8
                try clear hcz9_0
                try clear hcz9_1
                try clear hcz9_2
                try clear hcz9_3
                try clear hcz9_4
                try clear hcz9_5
                try clear hcz9_6
                try clear hcz9_7
                try clear hfz11_0
                try clear hfz11_1
                try clear hfz11_2
                try clear hfz11_3
                try clear hfz11_4
                try clear hfz11_5
                try clear hfz11_6
                try clear hfz11_7
                try clear hfz12_0
                try clear hfz12_1
                try clear hfz12_2
                try clear hfz12_3
                try clear hfz12_4
                try clear hfz12_5
                try clear hfz12_6
                try clear hfz12_7
                try clear hfz14_0
                try clear hfz14_1
                try clear hfz14_2
                try clear hfz14_3
                try clear hfz14_4
                try clear hfz14_5
                try clear hfz14_6
                try clear hfz14_7
                try clear hfz15_0
                try clear hfz15_1
                try clear hfz15_2
                try clear hfz15_3
                try clear hfz15_4
                try clear hfz15_5
                try clear hfz15_6
                try clear hfz15_7
                try clear hfz20_0
                try clear hfz20_1
                try clear hfz20_2
                try clear hfz20_3
                try clear hfz20_4
                try clear hfz20_5
                try clear hfz20_6
                try clear hfz20_7
                try clear hfz23_0
                try clear hfz23_1
                try clear hfz23_2
                try clear hfz23_3
                try clear hfz23_4
                try clear hfz23_5
                try clear hfz23_6
                try clear hfz23_7
                try clear hfz23_8
                try clear hfz9_0
                try clear hfz9_1
                try clear hfz9_2
                try clear hfz9_3
                try clear hfz9_4
                try clear hfz9_5
                try clear hfz9_6
                try clear hfz9_7
                try clear hx446_0
                try clear hx446_1
                try clear hx446_10
                try clear hx446_11
                try clear hx446_12
                try clear hx446_2
                try clear hx446_3
                try clear hx446_4
                try clear hx446_5
                try clear hx446_6
                try clear hx446_7
                try clear hx446_8
                try clear hx446_9
                try clear hx448_0
                try clear hx448_1
                try clear hx448_10
                try clear hx448_11
                try clear hx448_12
                try clear hx448_2
                try clear hx448_3
                try clear hx448_4
                try clear hx448_5
                try clear hx448_6
                try clear hx448_7
                try clear hx448_8
                try clear hx448_9
                try clear p2
                try clear p446
                try clear p448
                try clear q446
                try clear q448
                obtain ⟨kq, x47_24, rfl, HA, HJ24, HO_445008, BK440, BK444, HB⟩ := hcut
                cases kq with
                | zero => exact absurd HA.out (by simp [wharflaw19_RateNever.j2])
                | succ kj24 =>
                  have H := HA.out
                  clear HA
                  simp only [wharflaw19_RateNever.j2] at H
                  by_cases c32 : x47_24 = true
                  · subst c32
                    have H1 : ((wharflaw19_live.f kj24).bind fun t450 => (some t450)) = some r := by rw [if_pos rfl] at H; exact H
                    clear H
                    have H := H1
                    clear H1
                    replace H := Option.bind_eq_some_iff.mp H
                    obtain ⟨t450, A330, H⟩ := H
                    replace H : (some t450) = some r := H
                    have A33 := Aside0.mk A330
                    clear A330
                    obtain rfl := Option.some.inj H
                    go_wp2_with (first | ((with_reducible refine gate_callee (f := 13) rfl ?_); refine goesL_ (some 48) rfl rfl Try.func13 (by kernel_rfl) rfl #[] rfl (by (try simp only [List.map_toArray, List.map_cons, List.map_nil]); first | done | rfl | (simp only [List.length_drop, List.length_take]; rfl)) ?_; (with_reducible refine (wharflaw19_live.calls kj24  t450 _ A33.out).mono ?_); rintro e w34 ⟨rfl, hb⟩; refine ⟨_, rfl, ?_⟩; have n0_ := Aside0.mk (Kd.V_below (by (with_reducible repeat (first | apply Kd.V_alloc | apply Kd.V_drewN | apply Kd.V_drew)); exact HO_445008.out) hb); have n1_ := Aside0.mk (blk_below (g := gb440) (o := .cells #[.int .i64 a0_0, .int .i64 a0_1, .int .i64 a0_2, .int .i64 a0_3, .int .i64 a0_4, .int .i64 a0_5, .int .i64 a0_6, .int .i64 a0_7] 23 (0, 0)) (by (with_reducible repeat (first | refine blk_drewN ?_ _ | refine blk_drew ?_ | refine blk_alloc ?_ _)); exact BK440.out) hb); have n2_ := Aside0.mk (blk_below (g := gb444) (o := .cells #[.int .i64 x445000_2, .int .i64 x445001_2, .int .i64 x445002_2, .int .i64 x445003_2, .int .i64 x445004_2, .int .i64 x445005_2, .int .i64 x445006_2, .int .i64 x445007_2, u445008] 36 (0, 0)) (by (with_reducible repeat (first | refine blk_drewN ?_ _ | refine blk_drew ?_ | refine blk_alloc ?_ _)); exact BK444.out) hb); have n3_ := Aside0.mk (below_step (by repeat (first | (with_reducible first | exact HB.out | apply below_alloc | apply pw_below_drewN | apply below_drew1 | refine below_set ?_ GE440.out | refine below_set ?_ GE444.out) | exact HB.out)) hb); clear HO_445008; clear BK440; clear BK444; clear HB; have HO_445008 := n0_; have BK440 := n1_; have BK444 := n2_; have HB := n3_; clear n0_ n1_ n2_ n3_; (try clear hb); (try clear hb2); (try clear hk); (try clear hi)))
                    go_ret
                    exact ⟨by first | rfl | (simp [errW_none, errW_some] <;> rfl) | (simp [*, errW_none, errW_some] <;> rfl), by repeat (first | (with_reducible first | exact HB.out | apply below_alloc | apply pw_below_drewN | apply below_drew1 | refine below_set ?_ GE440.out | refine below_set ?_ GE444.out) | exact HB.out)⟩
                  · replace c32 := Bool.eq_false_iff.mpr c32
                    subst c32
                    have H1 : (if 0 ≤ x6_2 then (if x6_2 < (l1.length : Int) then (if ((rd_T43 l1 x6_2).f0) = 0 then ((rate_Push.f kj24 x445000_2 x445001_2 x445002_2 x445003_2 x445004_2 x445005_2 x445006_2 x445007_2 x445008_2 ((rd_T43 l1 x6_2).f1.f0) ((rd_T43 l1 x6_2).f1.f1) ((rd_T43 l1 x6_2).f1.f2) ((rd_T43 l1 x6_2).f1.f3) ((rd_T43 l1 x6_2).f1.f4) ((rd_T43 l1 x6_2).f1.f5) ((rd_T43 l1 x6_2).f1.f6) ((rd_T43 l1 x6_2).f1.f7) ((rd_T43 l1 x6_2).f1.f8) ((rd_T43 l1 x6_2).f1.f9) ((rd_T43 l1 x6_2).f1.f10)).bind fun bt453 => (wharflaw19_RateNever.j3 kj24 l1 x6_2 bt453.1 bt453.2.1 bt453.2.2.1 bt453.2.2.2.1 bt453.2.2.2.2.1 bt453.2.2.2.2.2.1 bt453.2.2.2.2.2.2.1 bt453.2.2.2.2.2.2.2.1 bt453.2.2.2.2.2.2.2.2.1)) else ((rate_Pop.f kj24 x445000_2 x445001_2 x445002_2 x445003_2 x445004_2 x445005_2 x445006_2 x445007_2 x445008_2 ((rd_T43 l1 x6_2).f2)).bind fun bt466 => (wharflaw19_RateNever.j3 kj24 l1 x6_2 bt466.1 bt466.2.1 bt466.2.2.1 bt466.2.2.2.1 bt466.2.2.2.2.1 bt466.2.2.2.2.2.1 bt466.2.2.2.2.2.2.1 bt466.2.2.2.2.2.2.2.1 bt466.2.2.2.2.2.2.2.2.1))) else (none)) else (none)) = some r := by rw [if_neg (show ¬ (false = true) by decide)] at H; exact H
                    clear H
                    have H := H1
                    clear H1
                    by_cases c35 : 0 ≤ x6_2
                    · rw [if_pos c35] at H
                      have c35b0 : decide (0 ≤ x6_2) = true := decide_eq_true c35
                      clear c35
                      by_cases c36 : x6_2 < (l1.length : Int)
                      · rw [if_pos c36] at H
                        have c36b0 : decide (x6_2 < (l1.length : Int)) = true := decide_eq_true c36
                        clear c36
                        (try (have c24b0zc36 := c24b0; simp only [c36b0, Bool.bne_true, Bool.bne_false, beq_true, beq_false, Bool.and_true, Bool.true_and, Bool.and_false, Bool.false_and, Bool.or_true, Bool.true_or, Bool.or_false, Bool.false_or, Bool.not_true, Bool.not_false] at c24b0zc36))
                        have HC37 := Aside0.mk H
                        clear H
                        have p451 : 0 ≤ (x6_2 : Int) := of_decide_eq_true (by first | (with_reducible assumption) | assumption)
                        have q451 : x6_2 < (l1.length : Int) := of_decide_eq_true (by first | (with_reducible assumption) | assumption)
                        obtain ⟨ad451, A451_10, c451_10, A451_11, c451_11, e451, hx451_0, hx451_1, hx451_2, hx451_3, hx451_4, hx451_5, hx451_6, hx451_7, hx451_8, hx451_9, hx451_10, hx451_11, hx451_12, hl451_10, hi451_10, hl451_11, hi451_11⟩ := at_T43 HR1.out x6_2 p451 q451
                        cases e451
                        replace hx451_0 := (HB.out.cell (World.block_lt_of_cell? w _ hx451_0)).trans hx451_0
                        replace hx451_1 := (HB.out.cell (World.block_lt_of_cell? w _ hx451_1)).trans hx451_1
                        replace hx451_2 := (HB.out.cell (World.block_lt_of_cell? w _ hx451_2)).trans hx451_2
                        replace hx451_3 := (HB.out.cell (World.block_lt_of_cell? w _ hx451_3)).trans hx451_3
                        replace hx451_4 := (HB.out.cell (World.block_lt_of_cell? w _ hx451_4)).trans hx451_4
                        replace hx451_5 := (HB.out.cell (World.block_lt_of_cell? w _ hx451_5)).trans hx451_5
                        replace hx451_6 := (HB.out.cell (World.block_lt_of_cell? w _ hx451_6)).trans hx451_6
                        replace hx451_7 := (HB.out.cell (World.block_lt_of_cell? w _ hx451_7)).trans hx451_7
                        replace hx451_8 := (HB.out.cell (World.block_lt_of_cell? w _ hx451_8)).trans hx451_8
                        replace hx451_9 := (HB.out.cell (World.block_lt_of_cell? w _ hx451_9)).trans hx451_9
                        replace hx451_10 := (HB.out.cell (World.block_lt_of_cell? w _ hx451_10)).trans hx451_10
                        replace hx451_11 := (HB.out.cell (World.block_lt_of_cell? w _ hx451_11)).trans hx451_11
                        replace hx451_12 := (HB.out.cell (World.block_lt_of_cell? w _ hx451_12)).trans hx451_12
                        have HR451_10 := Aside0.mk hi451_10
                        have HC451_10 := Aside0.mk hl451_10
                        clear hi451_10 hl451_10
                        have HR451_11 := Aside0.mk hi451_11
                        have HC451_11 := Aside0.mk hl451_11
                        clear hi451_11 hl451_11
                        replace p451 := eq_true p451
                        replace q451 := eq_true q451
                        go_upto_if 54 with (fail)
                        go_cut [] (fun wc => ∃ (kq : Nat) (x445000_36 : Int) (x445001_36 : Int) (x445002_36 : Int) (x445003_36 : Int) (x445004_36 : Int) (x445005_36 : Int) (x445006_36 : Int) (x445007_36 : Int) (x445008_36 : List (S41)) (u445008 : Value), Aside0 (wharflaw19_RateNever.j3 kq l1 x6_2 x445000_36 x445001_36 x445002_36 x445003_36 x445004_36 x445005_36 x445006_36 x445007_36 x445008_36 = some r) ∧ Aside0 (kq ≤ kj24) ∧ Aside0 (Kd.V k41 41 wc w.heap.size (fun k_ => k_ ≠ gb440 ∧ k_ ≠ gb444) u445008 x445008_36) ∧ Aside0 (wc.heap[gb440]? = some (.cells #[.int .i64 a0_0, .int .i64 a0_1, .int .i64 a0_2, .int .i64 a0_3, .int .i64 a0_4, .int .i64 a0_5, .int .i64 a0_6, .int .i64 a0_7] 23 (0, 0))) ∧ Aside0 (wc.heap[gb444]? = some (.cells #[.int .i64 x445000_36, .int .i64 x445001_36, .int .i64 x445002_36, .int .i64 x445003_36, .int .i64 x445004_36, .int .i64 x445005_36, .int .i64 x445006_36, .int .i64 x445007_36, u445008] 36 (0, 0))) ∧ Aside0 (Below w.heap.size w wc))
                        case first =>
                          have H := HC37.out
                          clear HC37
                          by_cases c38 : ((rd_T43 l1 x6_2).f0) = 0
                          · rw [if_pos c38] at H
                            have c38b0 : (((rd_T43 l1 x6_2).f0) == 0) = true := beq_iff_eq.mpr c38
                            have c38b1 : (((rd_T43 l1 x6_2).f0) != 0) = false := bne_eq_false_iff_eq.mpr c38
                            clear c38
                            (first | rw [c38b0] | (simp only [i64_w, i32_w]; rw [c38b0]) | skip)
                            replace H := Option.bind_eq_some_iff.mp H
                            obtain ⟨⟨t453, t454, t455, t456, t457, t458, t459, t460, t461, t464⟩, A390, H⟩ := H
                            replace H : (wharflaw19_RateNever.j3 kj24 l1 x6_2 t453 t454 t455 t456 t457 t458 t459 t460 t461) = some r := H
                            have A39 := Aside0.mk A390
                            clear A390
                            have H' := Aside0.mk H
                            clear H
                            try go_wp2
                            have n0_ := Aside0.mk (Kd.V_drew HO_445008.out)
                            have n1_ := Aside0.mk (blk_drew BK440.out)
                            have n2_ := Aside0.mk (blk_drew BK444.out)
                            have n3_ := Aside0.mk (below_drew1 HB.out)
                            clear HO_445008
                            clear BK440
                            clear BK444
                            clear HB
                            have HO_445008 := n0_
                            have BK440 := n1_
                            have BK444 := n2_
                            have HB := n3_
                            clear n0_ n1_ n2_ n3_
                            have p452 : 0 ≤ (x6_2 : Int) := of_decide_eq_true (by first | (with_reducible assumption) | assumption)
                            have q452 : x6_2 < (l1.length : Int) := of_decide_eq_true (by first | (with_reducible assumption) | assumption)
                            obtain ⟨ad452, A452_10, c452_10, A452_11, c452_11, e452, hx452_0, hx452_1, hx452_2, hx452_3, hx452_4, hx452_5, hx452_6, hx452_7, hx452_8, hx452_9, hx452_10, hx452_11, hx452_12, hl452_10, hi452_10, hl452_11, hi452_11⟩ := at_T43 HR1.out x6_2 p452 q452
                            have hw452_12 := hx452_12
                            have hw452_11 := hx452_11
                            have hw452_10 := hx452_10
                            have hw452_9 := hx452_9
                            have hw452_8 := hx452_8
                            have hw452_7 := hx452_7
                            have hw452_6 := hx452_6
                            have hw452_5 := hx452_5
                            have hw452_4 := hx452_4
                            have hw452_3 := hx452_3
                            have hw452_2 := hx452_2
                            have hw452_1 := hx452_1
                            have hw452_0 := hx452_0
                            obtain rfl : ad451 = ad452 := (by injection e452)
                            replace hx452_0 := (HB.out.cell (World.block_lt_of_cell? w _ hx452_0)).trans hx452_0
                            replace hx452_1 := (HB.out.cell (World.block_lt_of_cell? w _ hx452_1)).trans hx452_1
                            replace hx452_2 := (HB.out.cell (World.block_lt_of_cell? w _ hx452_2)).trans hx452_2
                            replace hx452_3 := (HB.out.cell (World.block_lt_of_cell? w _ hx452_3)).trans hx452_3
                            replace hx452_4 := (HB.out.cell (World.block_lt_of_cell? w _ hx452_4)).trans hx452_4
                            replace hx452_5 := (HB.out.cell (World.block_lt_of_cell? w _ hx452_5)).trans hx452_5
                            replace hx452_6 := (HB.out.cell (World.block_lt_of_cell? w _ hx452_6)).trans hx452_6
                            replace hx452_7 := (HB.out.cell (World.block_lt_of_cell? w _ hx452_7)).trans hx452_7
                            replace hx452_8 := (HB.out.cell (World.block_lt_of_cell? w _ hx452_8)).trans hx452_8
                            replace hx452_9 := (HB.out.cell (World.block_lt_of_cell? w _ hx452_9)).trans hx452_9
                            replace hx452_10 := (HB.out.cell (World.block_lt_of_cell? w _ hx452_10)).trans hx452_10
                            replace hx452_11 := (HB.out.cell (World.block_lt_of_cell? w _ hx452_11)).trans hx452_11
                            replace hx452_12 := (HB.out.cell (World.block_lt_of_cell? w _ hx452_12)).trans hx452_12
                            have HR452_10 := Aside0.mk hi452_10
                            have HC452_10 := Aside0.mk hl452_10
                            clear hi452_10 hl452_10
                            have HR452_11 := Aside0.mk hi452_11
                            have HC452_11 := Aside0.mk hl452_11
                            clear hi452_11 hl452_11
                            replace p452 := eq_true p452
                            replace q452 := eq_true q452
                            obtain ⟨Ao41, co41, eo41⟩ := Kd.V_slice HO_445008.out
                            (first | subst eo41 | (injection eo41 with f1_ f2_ f3_; have f4_ := f1_.symm; have f5_ := f3_.symm; clear f1_ f2_ f3_; subst f4_; subst f5_))
                            refine start_ (n := 11) (S := fun w' => w'.cell? ⟨gb444, 0, none⟩ = some (.int .i64 x445000_2) ∧ w'.cell? ⟨gb444, 1, none⟩ = some (.int .i64 x445001_2) ∧ w'.cell? ⟨gb444, 2, none⟩ = some (.int .i64 x445002_2) ∧ w'.cell? ⟨gb444, 3, none⟩ = some (.int .i64 x445003_2) ∧ w'.cell? ⟨gb444, 4, none⟩ = some (.int .i64 x445004_2) ∧ w'.cell? ⟨gb444, 5, none⟩ = some (.int .i64 x445005_2) ∧ w'.cell? ⟨gb444, 6, none⟩ = some (.int .i64 x445006_2) ∧ w'.cell? ⟨gb444, 7, none⟩ = some (.int .i64 x445007_2) ∧ w'.cell? ⟨gb444, 8, none⟩ = some (.slice Ao41 x445008_2.length co41) ∧ w'.cell? (ad451.add ((x6_2).toNat * 13)) = some (.int .i64 ((rd_T43 l1 x6_2).f0)) ∧ w'.cell? ⟨(ad451.add ((x6_2).toNat * 13)).block, (ad451.add ((x6_2).toNat * 13)).off + 1, none⟩ = some (.int .i64 ((rd_T43 l1 x6_2).f1.f0)) ∧ w'.cell? ⟨(ad451.add ((x6_2).toNat * 13)).block, (ad451.add ((x6_2).toNat * 13)).off + 2, none⟩ = some (.string ((rd_T43 l1 x6_2).f1.f1)) ∧ w'.cell? ⟨(ad451.add ((x6_2).toNat * 13)).block, (ad451.add ((x6_2).toNat * 13)).off + 3, none⟩ = some (.string ((rd_T43 l1 x6_2).f1.f2)) ∧ w'.cell? ⟨(ad451.add ((x6_2).toNat * 13)).block, (ad451.add ((x6_2).toNat * 13)).off + 4, none⟩ = some (.string ((rd_T43 l1 x6_2).f1.f3)) ∧ w'.cell? ⟨(ad451.add ((x6_2).toNat * 13)).block, (ad451.add ((x6_2).toNat * 13)).off + 5, none⟩ = some (.int .i64 ((rd_T43 l1 x6_2).f1.f4)) ∧ w'.cell? ⟨(ad451.add ((x6_2).toNat * 13)).block, (ad451.add ((x6_2).toNat * 13)).off + 6, none⟩ = some (.int .i64 ((rd_T43 l1 x6_2).f1.f5)) ∧ w'.cell? ⟨(ad451.add ((x6_2).toNat * 13)).block, (ad451.add ((x6_2).toNat * 13)).off + 7, none⟩ = some (.int .i64 ((rd_T43 l1 x6_2).f1.f6)) ∧ w'.cell? ⟨(ad451.add ((x6_2).toNat * 13)).block, (ad451.add ((x6_2).toNat * 13)).off + 8, none⟩ = some (.int .i64 ((rd_T43 l1 x6_2).f1.f7)) ∧ w'.cell? ⟨(ad451.add ((x6_2).toNat * 13)).block, (ad451.add ((x6_2).toNat * 13)).off + 9, none⟩ = some (.bool ((rd_T43 l1 x6_2).f1.f8)) ∧ w'.cell? ⟨(ad451.add ((x6_2).toNat * 13)).block, (ad451.add ((x6_2).toNat * 13)).off + 10, none⟩ = some (.slice A452_10 ((rd_T43 l1 x6_2).f1.f9).length c452_10) ∧ w'.cell? ⟨(ad451.add ((x6_2).toNat * 13)).block, (ad451.add ((x6_2).toNat * 13)).off + 11, none⟩ = some (.slice A452_11 ((rd_T43 l1 x6_2).f1.f10).length c452_11) ∧ w'.cell? ⟨(ad451.add ((x6_2).toNat * 13)).block, (ad451.add ((x6_2).toNat * 13)).off + 12, none⟩ = some (.int .i64 ((rd_T43 l1 x6_2).f2))) (ds := [10]) #[false, false, false, false, false, false, false, false, false, false, false] (by kernel_rfl) rfl rfl ⟨(blk_cell BK444.out 0).trans rfl, (blk_cell BK444.out 1).trans rfl, (blk_cell BK444.out 2).trans rfl, (blk_cell BK444.out 3).trans rfl, (blk_cell BK444.out 4).trans rfl, (blk_cell BK444.out 5).trans rfl, (blk_cell BK444.out 6).trans rfl, (blk_cell BK444.out 7).trans rfl, (blk_cell BK444.out 8).trans rfl, ((HB.out.cell (World.block_lt_of_cell? w _ hw452_0)).trans hw452_0), ((HB.out.cell (World.block_lt_of_cell? w _ hw452_1)).trans hw452_1), ((HB.out.cell (World.block_lt_of_cell? w _ hw452_2)).trans hw452_2), ((HB.out.cell (World.block_lt_of_cell? w _ hw452_3)).trans hw452_3), ((HB.out.cell (World.block_lt_of_cell? w _ hw452_4)).trans hw452_4), ((HB.out.cell (World.block_lt_of_cell? w _ hw452_5)).trans hw452_5), ((HB.out.cell (World.block_lt_of_cell? w _ hw452_6)).trans hw452_6), ((HB.out.cell (World.block_lt_of_cell? w _ hw452_7)).trans hw452_7), ((HB.out.cell (World.block_lt_of_cell? w _ hw452_8)).trans hw452_8), ((HB.out.cell (World.block_lt_of_cell? w _ hw452_9)).trans hw452_9), ((HB.out.cell (World.block_lt_of_cell? w _ hw452_10)).trans hw452_10), ((HB.out.cell (World.block_lt_of_cell? w _ hw452_11)).trans hw452_11), ((HB.out.cell (World.block_lt_of_cell? w _ hw452_12)).trans hw452_12)⟩ (fun hHeld => ?_); refine with_tabW wharflaw19_RateNever.tab10 wharflaw19_RateNever.bits10 (fun HT_ HW_ => ?_)
                            generalize wc.drew = w40 at HO_445008 BK440 BK444 HB HR452_10 HR452_11 hx452_0 hx452_1 hx452_10 hx452_11 hx452_12 hx452_2 hx452_3 hx452_4 hx452_5 hx452_6 hx452_7 hx452_8 hx452_9 hHeld ⊢
                            refine pure_ (i := 1) (N := some 57) (v := ?_) (a' := ?_) #[false, true, false, false, false, false, false, false, false, false, false] rfl rfl (any_of HT_.out (by kernel_rfl)) (fun _ _ _ h => h) (Or.inl ⟨by rfl, ?_⟩) ?_ ?_
                            rotate_left
                            · intro w'
                              go_simp
                              with_reducible rfl
                            rotate_left
                            · simp only [Act.put, List.setIfInBounds_toArray, List.set_cons_zero, List.set_cons_succ, i64_w, i32_w]
                              rfl
                            refine pure_ (i := 2) (N := some 58) (v := ?_) (a' := ?_) #[false, true, true, false, false, false, false, false, false, false, false] rfl rfl (any_of HT_.out (by kernel_rfl)) (fun _ _ _ h => h) (Or.inl ⟨by rfl, ?_⟩) ?_ ?_
                            rotate_left
                            · intro w'
                              go_simp
                              with_reducible rfl
                            rotate_left
                            · simp only [Act.put, List.setIfInBounds_toArray, List.set_cons_zero, List.set_cons_succ, i64_w, i32_w]
                              rfl
                            refine pure_ (i := 3) (N := some 59) (v := ?_) (a' := ?_) #[false, true, true, true, false, false, false, false, false, false, false] rfl rfl (any_of HT_.out (by kernel_rfl)) (fun _ _ _ h => h) (Or.inl ⟨by rfl, ?_⟩) ?_ ?_
                            rotate_left
                            · intro w'
                              go_simp
                              with_reducible rfl
                            rotate_left
                            · simp only [Act.put, List.setIfInBounds_toArray, List.set_cons_zero, List.set_cons_succ, i64_w, i32_w]
                              rfl
                            refine pure_ (i := 4) (N := some 60) (v := ?_) (a' := ?_) #[false, true, true, true, true, false, false, false, false, false, false] rfl rfl (any_of HT_.out (by kernel_rfl)) (fun _ _ _ h => h) (Or.inl ⟨by rfl, ?_⟩) ?_ ?_
                            rotate_left
                            · intro w'
                              go_simp
                              with_reducible rfl
                            rotate_left
                            · simp only [Act.put, List.setIfInBounds_toArray, List.set_cons_zero, List.set_cons_succ, i64_w, i32_w]
                              rfl
                            refine take_ (i := 0) (N := some 56) (v := ?_) (a' := ?_) #[true, true, true, true, true, false, false, false, false, false, false] rfl rfl (take_ofW HT_.out HW_.out (by kernel_rfl)) (fun _ _ _ h => h) (Or.inl ⟨by rfl, ?_⟩) hHeld ?_ ?_
                            rotate_left
                            · rintro w' ⟨s0, s1, s2, s3, s4, s5, s6, s7, s8, s9, s10, s11, s12, s13, s14, s15, s16, s17, s18, s19, s20, s21⟩
                              go_simp
                              with_reducible rfl
                            rotate_left
                            · simp only [Act.put, List.setIfInBounds_toArray, List.set_cons_zero, List.set_cons_succ, i64_w, i32_w]
                              rfl
                            refine take_ (i := 5) (N := some 61) (v := ?_) (a' := ?_) #[true, true, true, true, true, true, false, false, false, false, false] rfl rfl (take_ofW HT_.out HW_.out (by kernel_rfl)) (fun _ _ _ h => h) (Or.inl ⟨by rfl, ?_⟩) hHeld ?_ ?_
                            rotate_left
                            · rintro w' ⟨s0, s1, s2, s3, s4, s5, s6, s7, s8, s9, s10, s11, s12, s13, s14, s15, s16, s17, s18, s19, s20, s21⟩
                              go_simp
                              with_reducible rfl
                            rotate_left
                            · simp only [Act.put, List.setIfInBounds_toArray, List.set_cons_zero, List.set_cons_succ, i64_w, i32_w]
                              rfl
                            refine one_ (i := 6) (N := some 62) #[true, true, true, true, true, true, true, false, false, false, false] rfl rfl (one_of HT_.out (by kernel_rfl)) (by decide) (fun K hK => ?_)
                            refine goes_ Try.func23 (by kernel_rfl) rfl #[.agg #[.int .i64 x445000_2, .int .i64 x445001_2, .int .i64 x445002_2, .int .i64 x445003_2, .int .i64 x445004_2, .int .i64 x445005_2, .int .i64 x445006_2, .int .i64 x445007_2, .slice Ao41 x445008_2.length co41], .agg #[.int .i64 ((rd_T43 l1 x6_2).f1.f0), .string ((rd_T43 l1 x6_2).f1.f1), .string ((rd_T43 l1 x6_2).f1.f2), .string ((rd_T43 l1 x6_2).f1.f3), .int .i64 ((rd_T43 l1 x6_2).f1.f4), .int .i64 ((rd_T43 l1 x6_2).f1.f5), .int .i64 ((rd_T43 l1 x6_2).f1.f6), .int .i64 ((rd_T43 l1 x6_2).f1.f7), .bool ((rd_T43 l1 x6_2).f1.f8), .slice A452_10 ((rd_T43 l1 x6_2).f1.f9).length c452_10, .slice A452_11 ((rd_T43 l1 x6_2).f1.f10).length c452_11]] (by rfl) rfl rfl (by (try simp only [List.map_toArray, List.map_cons, List.map_nil]); first | done | rfl | (simp only [List.length_drop, List.length_take]; rfl)) ?_
                            with_reducible refine (rate_Push.calls kj24 x445000_2 x445001_2 x445002_2 x445003_2 x445004_2 x445005_2 x445006_2 x445007_2 (fun k_ => (k_ ≠ gb440 ∧ k_ ≠ gb444)) _ _ x445008_2 ((rd_T43 l1 x6_2).f1.f0) ((rd_T43 l1 x6_2).f1.f1) ((rd_T43 l1 x6_2).f1.f2) ((rd_T43 l1 x6_2).f1.f3) ((rd_T43 l1 x6_2).f1.f4) ((rd_T43 l1 x6_2).f1.f5) ((rd_T43 l1 x6_2).f1.f6) ((rd_T43 l1 x6_2).f1.f7) ((rd_T43 l1 x6_2).f1.f8) (fun k_ => k_ < w.heap.size) _ _ ((rd_T43 l1 x6_2).f1.f9) (fun k_ => k_ < w.heap.size) _ _ ((rd_T43 l1 x6_2).f1.f10) t453 t454 t455 t456 t457 t458 t459 t460 t461 t464 _ ?side1 ?side2 ?side3 A39.out).mono ?_
                            (case side1 => exact HO_445008.out)
                            (case side2 => exact Kd.V_mk HC452_10.out (Kd.F_below (Kd.C_F k69_heap HR452_10.out) (by repeat (first | (with_reducible first | exact HB.out | apply below_alloc | apply pw_below_drewN | apply below_drew1 | refine below_set ?_ GE440.out | refine below_set ?_ GE444.out) | exact HB.out))))
                            (case side3 => exact Kd.V_mk HC452_11.out (Kd.F_below (Kd.C_F (Kd.heap_int .i64) HR452_11.out) (by repeat (first | (with_reducible first | exact HB.out | apply below_alloc | apply pw_below_drewN | apply below_drew1 | refine below_set ?_ GE440.out | refine below_set ?_ GE444.out) | exact HB.out))))
                            rintro e w42 ⟨v462, rfl, ho0, hb⟩
                            refine ⟨_, rfl, ?_⟩
                            have n0_ := Aside0.mk (Kd.V_below (by (with_reducible repeat (first | apply Kd.V_alloc | apply Kd.V_drewN | apply Kd.V_drew)); exact HO_445008.out) hb)
                            have n1_ := Aside0.mk (Kd.V_lower (Kd.V_mono (ok' := fun k_ => k_ ≠ gb440 ∧ k_ ≠ gb444) ho0 (fun k_ hk_ => ⟨Or.elim hk_ (fun hs_ => Or.elim hs_ (fun hs_ => hs_.1) (fun hs_ => Or.elim hs_ (fun hs_ => fun e_ => Nat.not_le.2 hs_ (by rw [e_]; exact GW440.out)) (fun hs_ => fun e_ => Nat.not_le.2 hs_ (by rw [e_]; exact GW440.out)))) (fun hn_ => (Kd.freshB (g := gb440) (o := .cells #[.int .i64 a0_0, .int .i64 a0_1, .int .i64 a0_2, .int .i64 a0_3, .int .i64 a0_4, .int .i64 a0_5, .int .i64 a0_6, .int .i64 a0_7] 23 (0, 0)) (by (with_reducible repeat (first | refine blk_drewN ?_ _ | refine blk_drew ?_ | refine blk_alloc ?_ _)); exact BK440.out) k_ hn_)), Or.elim hk_ (fun hs_ => Or.elim hs_ (fun hs_ => hs_.2) (fun hs_ => Or.elim hs_ (fun hs_ => fun e_ => Nat.not_le.2 hs_ (by rw [e_]; exact GW444.out)) (fun hs_ => fun e_ => Nat.not_le.2 hs_ (by rw [e_]; exact GW444.out)))) (fun hn_ => (Kd.freshB (g := gb444) (o := .cells #[.int .i64 x445000_2, .int .i64 x445001_2, .int .i64 x445002_2, .int .i64 x445003_2, .int .i64 x445004_2, .int .i64 x445005_2, .int .i64 x445006_2, .int .i64 x445007_2, .slice Ao41 x445008_2.length co41] 36 (0, 0)) (by (with_reducible repeat (first | refine blk_drewN ?_ _ | refine blk_drew ?_ | refine blk_alloc ?_ _)); exact BK444.out) k_ hn_))⟩)) (below_size (by repeat (first | (with_reducible first | exact HB.out | apply below_alloc | apply pw_below_drewN | apply below_drew1 | refine below_set ?_ GE440.out | refine below_set ?_ GE444.out) | exact HB.out))))
                            have n2_ := Aside0.mk (blk_below (g := gb440) (o := .cells #[.int .i64 a0_0, .int .i64 a0_1, .int .i64 a0_2, .int .i64 a0_3, .int .i64 a0_4, .int .i64 a0_5, .int .i64 a0_6, .int .i64 a0_7] 23 (0, 0)) (by (with_reducible repeat (first | refine blk_drewN ?_ _ | refine blk_drew ?_ | refine blk_alloc ?_ _)); exact BK440.out) hb)
                            have n3_ := Aside0.mk (blk_below (g := gb444) (o := .cells #[.int .i64 x445000_2, .int .i64 x445001_2, .int .i64 x445002_2, .int .i64 x445003_2, .int .i64 x445004_2, .int .i64 x445005_2, .int .i64 x445006_2, .int .i64 x445007_2, .slice Ao41 x445008_2.length co41] 36 (0, 0)) (by (with_reducible repeat (first | refine blk_drewN ?_ _ | refine blk_drew ?_ | refine blk_alloc ?_ _)); exact BK444.out) hb)
                            have n4_ := Aside0.mk (below_step (by repeat (first | (with_reducible first | exact HB.out | apply below_alloc | apply pw_below_drewN | apply below_drew1 | refine below_set ?_ GE440.out | refine below_set ?_ GE444.out) | exact HB.out)) hb)
                            clear HO_445008
                            clear BK440
                            clear BK444
                            clear HB
                            have HO_445008 := n0_
                            have HO463 := n1_
                            have BK440 := n2_
                            have BK444 := n3_
                            have HB := n4_
                            clear n0_ n1_ n2_ n3_ n4_
                            (try clear hb)
                            (try clear hb2)
                            (try clear hk)
                            (try clear hi)
                            (try clear ho0)
                            obtain ⟨Ao51, co51, eo51⟩ := Kd.V_slice HO463.out
                            (first | subst eo51 | (injection eo51 with f1_ f2_ f3_; have f4_ := f1_.symm; have f5_ := f3_.symm; clear f1_ f2_ f3_; subst f4_; subst f5_))
                            refine hK.out _ _ ⟨(blk_cell BK444.out 0).trans rfl, (blk_cell BK444.out 1).trans rfl, (blk_cell BK444.out 2).trans rfl, (blk_cell BK444.out 3).trans rfl, (blk_cell BK444.out 4).trans rfl, (blk_cell BK444.out 5).trans rfl, (blk_cell BK444.out 6).trans rfl, (blk_cell BK444.out 7).trans rfl, (blk_cell BK444.out 8).trans rfl, ((HB.out.cell (World.block_lt_of_cell? w _ hw452_0)).trans hw452_0), ((HB.out.cell (World.block_lt_of_cell? w _ hw452_1)).trans hw452_1), ((HB.out.cell (World.block_lt_of_cell? w _ hw452_2)).trans hw452_2), ((HB.out.cell (World.block_lt_of_cell? w _ hw452_3)).trans hw452_3), ((HB.out.cell (World.block_lt_of_cell? w _ hw452_4)).trans hw452_4), ((HB.out.cell (World.block_lt_of_cell? w _ hw452_5)).trans hw452_5), ((HB.out.cell (World.block_lt_of_cell? w _ hw452_6)).trans hw452_6), ((HB.out.cell (World.block_lt_of_cell? w _ hw452_7)).trans hw452_7), ((HB.out.cell (World.block_lt_of_cell? w _ hw452_8)).trans hw452_8), ((HB.out.cell (World.block_lt_of_cell? w _ hw452_9)).trans hw452_9), ((HB.out.cell (World.block_lt_of_cell? w _ hw452_10)).trans hw452_10), ((HB.out.cell (World.block_lt_of_cell? w _ hw452_11)).trans hw452_11), ((HB.out.cell (World.block_lt_of_cell? w _ hw452_12)).trans hw452_12)⟩ (fun hHeld => ?_)
                            clear hK K
                            refine norm_ (a' := ?_) ?_ ?_
                            rotate_left
                            · show Act.put _ (some 62) _ = _
                              simp only [Act.put, List.setIfInBounds_toArray, List.set_cons_zero, List.set_cons_succ, i64_w, i32_w]
                              rfl
                            refine pure_ (i := 7) (N := some 55) (v := ?_) (a' := ?_) #[true, true, true, true, true, true, true, true, false, false, false] rfl rfl (any_of HT_.out (by kernel_rfl)) (fun _ _ _ h => h) (Or.inl ⟨by rfl, ?_⟩) ?_ ?_
                            rotate_left
                            · intro w'
                              go_simp
                              with_reducible rfl
                            rotate_left
                            · simp only [Act.put, List.setIfInBounds_toArray, List.set_cons_zero, List.set_cons_succ, i64_w, i32_w]
                              rfl
                            refine pure_ (i := 8) (N := some 63) (v := ?_) (a' := ?_) #[true, true, true, true, true, true, true, true, true, false, false] rfl rfl (any_of HT_.out (by kernel_rfl)) (fun _ _ _ h => h) (Or.inl ⟨by rfl, ?_⟩) ?_ ?_
                            rotate_left
                            · intro w'
                              go_simp
                              with_reducible rfl
                            rotate_left
                            · simp only [Act.put, List.setIfInBounds_toArray, List.set_cons_zero, List.set_cons_succ, i64_w, i32_w]
                              rfl
                            refine pure_ (i := 9) (N := some 64) (v := ?_) (a' := ?_) #[true, true, true, true, true, true, true, true, true, true, false] rfl rfl (any_of HT_.out (by kernel_rfl)) (fun _ _ _ h => h) (Or.inl ⟨by rfl, ?_⟩) ?_ ?_
                            rotate_left
                            · intro w'
                              go_simp
                              with_reducible rfl
                            rotate_left
                            · simp only [Act.put, List.setIfInBounds_toArray, List.set_cons_zero, List.set_cons_succ, i64_w, i32_w]
                              rfl
                            refine last_ (i := 10) (N := none) #[true, true, true, true, true, true, true, true, true, true, true] rfl rfl (one_of HT_.out (by kernel_rfl)) (by decide) (fun K hK => ?_)
                            have hs43 : w42.cell? ⟨gb444, 0, none⟩ = some (.int .i64 x445000_2) := (blk_cell BK444.out 0).trans rfl
                            have hfs43 := blk_frozen BK444.out 0
                            have hns43_0 := NB440_444.out
                            have hms43_0 := NB444_440.out
                            have hs44 : w42.cell? ⟨gb444, 1, none⟩ = some (.int .i64 x445001_2) := (blk_cell BK444.out 1).trans rfl
                            have hfs44 := blk_frozen BK444.out 1
                            have hns44_0 := NB440_444.out
                            have hms44_0 := NB444_440.out
                            have hs45 : w42.cell? ⟨gb444, 2, none⟩ = some (.int .i64 x445002_2) := (blk_cell BK444.out 2).trans rfl
                            have hfs45 := blk_frozen BK444.out 2
                            have hns45_0 := NB440_444.out
                            have hms45_0 := NB444_440.out
                            have hs46 : w42.cell? ⟨gb444, 3, none⟩ = some (.int .i64 x445003_2) := (blk_cell BK444.out 3).trans rfl
                            have hfs46 := blk_frozen BK444.out 3
                            have hns46_0 := NB440_444.out
                            have hms46_0 := NB444_440.out
                            have hs47 : w42.cell? ⟨gb444, 4, none⟩ = some (.int .i64 x445004_2) := (blk_cell BK444.out 4).trans rfl
                            have hfs47 := blk_frozen BK444.out 4
                            have hns47_0 := NB440_444.out
                            have hms47_0 := NB444_440.out
                            have hs48 : w42.cell? ⟨gb444, 5, none⟩ = some (.int .i64 x445005_2) := (blk_cell BK444.out 5).trans rfl
                            have hfs48 := blk_frozen BK444.out 5
                            have hns48_0 := NB440_444.out
                            have hms48_0 := NB444_440.out
                            have hs49 : w42.cell? ⟨gb444, 6, none⟩ = some (.int .i64 x445006_2) := (blk_cell BK444.out 6).trans rfl
                            have hfs49 := blk_frozen BK444.out 6
                            have hns49_0 := NB440_444.out
                            have hms49_0 := NB444_440.out
                            have hs50 : w42.cell? ⟨gb444, 7, none⟩ = some (.int .i64 x445007_2) := (blk_cell BK444.out 7).trans rfl
                            have hfs50 := blk_frozen BK444.out 7
                            have hns50_0 := NB440_444.out
                            have hms50_0 := NB444_440.out
                            have hs52 : w42.cell? ⟨gb444, 8, none⟩ = some (.slice Ao41 x445008_2.length co41) := (blk_cell BK444.out 8).trans rfl
                            have hfs52 := blk_frozen BK444.out 8
                            have hns52_0 := NB440_444.out
                            have hms52_0 := NB444_440.out
                            refine skip_ (w1 := ?_) (by rfl) rfl ?_ ?_
                            rotate_left
                            · go_simp
                              rfl
                            refine hK.out _ _ ?_
                            clear hK K
                            refine done_ (done_of HT_.out (by kernel_rfl)) ?_
                            try go_wp2
                            go_meet
                            case rel => exact ⟨_, (t453), (t454), (t455), (t456), (t457), (t458), (t459), (t460), (t461), (.slice Ao51 t461.length co51), H', ⟨by have := HJ2.out; have := HK2.out; have := HJ24.out; first | omega | exact Nat.le_refl _⟩, ⟨by (with_reducible repeat (first | apply Kd.V_alloc | apply Kd.V_drewN | apply Kd.V_drew)); have zf59_ := Kd.V_mono HO463.out (fun k_ hk => (⟨hk, hk.2⟩ : _ ∧ k_ ≠ gb444)); have zf59_ := Kd.V_far (p := ⟨gb444, 0, none⟩) zf59_ (fun _ hk => hk.2) (.int .i64 t453); have zf59_ := Kd.V_far (p := ⟨gb444, 1, none⟩) zf59_ (fun _ hk => hk.2) (.int .i64 t454); have zf59_ := Kd.V_far (p := ⟨gb444, 2, none⟩) zf59_ (fun _ hk => hk.2) (.int .i64 t455); have zf59_ := Kd.V_far (p := ⟨gb444, 3, none⟩) zf59_ (fun _ hk => hk.2) (.int .i64 t456); have zf59_ := Kd.V_far (p := ⟨gb444, 4, none⟩) zf59_ (fun _ hk => hk.2) (.int .i64 t457); have zf59_ := Kd.V_far (p := ⟨gb444, 5, none⟩) zf59_ (fun _ hk => hk.2) (.int .i64 t458); have zf59_ := Kd.V_far (p := ⟨gb444, 6, none⟩) zf59_ (fun _ hk => hk.2) (.int .i64 t459); have zf59_ := Kd.V_far (p := ⟨gb444, 7, none⟩) zf59_ (fun _ hk => hk.2) (.int .i64 t460); have zf59_ := Kd.V_far (p := ⟨gb444, 8, none⟩) zf59_ (fun _ hk => hk.2) (.slice Ao51 t461.length co51); exact Kd.V_mono (zf59_) (fun _ hk => ⟨hk.1.1, hk.1.2⟩)⟩, ⟨by (with_reducible repeat (first | refine blk_drewN ?_ _ | refine blk_drew ?_ | refine blk_alloc ?_ _)); (iterate 9 (refine blk_far ?_ NB440_444.out _; (with_reducible repeat (first | refine blk_drewN ?_ _ | refine blk_drew ?_ | refine blk_alloc ?_ _)))); exact BK440.out⟩, ⟨by (with_reducible repeat (first | refine blk_drewN ?_ _ | refine blk_drew ?_ | refine blk_alloc ?_ _)); refine blk_put (cs := #[.int .i64 t453, .int .i64 t454, .int .i64 t455, .int .i64 t456, .int .i64 t457, .int .i64 t458, .int .i64 t459, .int .i64 t460, .slice Ao41 x445008_2.length co41]) ?_ 8 _ rfl; (with_reducible repeat (first | refine blk_drewN ?_ _ | refine blk_drew ?_ | refine blk_alloc ?_ _)); refine blk_put (cs := #[.int .i64 t453, .int .i64 t454, .int .i64 t455, .int .i64 t456, .int .i64 t457, .int .i64 t458, .int .i64 t459, .int .i64 x445007_2, .slice Ao41 x445008_2.length co41]) ?_ 7 _ rfl; (with_reducible repeat (first | refine blk_drewN ?_ _ | refine blk_drew ?_ | refine blk_alloc ?_ _)); refine blk_put (cs := #[.int .i64 t453, .int .i64 t454, .int .i64 t455, .int .i64 t456, .int .i64 t457, .int .i64 t458, .int .i64 x445006_2, .int .i64 x445007_2, .slice Ao41 x445008_2.length co41]) ?_ 6 _ rfl; (with_reducible repeat (first | refine blk_drewN ?_ _ | refine blk_drew ?_ | refine blk_alloc ?_ _)); refine blk_put (cs := #[.int .i64 t453, .int .i64 t454, .int .i64 t455, .int .i64 t456, .int .i64 t457, .int .i64 x445005_2, .int .i64 x445006_2, .int .i64 x445007_2, .slice Ao41 x445008_2.length co41]) ?_ 5 _ rfl; (with_reducible repeat (first | refine blk_drewN ?_ _ | refine blk_drew ?_ | refine blk_alloc ?_ _)); refine blk_put (cs := #[.int .i64 t453, .int .i64 t454, .int .i64 t455, .int .i64 t456, .int .i64 x445004_2, .int .i64 x445005_2, .int .i64 x445006_2, .int .i64 x445007_2, .slice Ao41 x445008_2.length co41]) ?_ 4 _ rfl; (with_reducible repeat (first | refine blk_drewN ?_ _ | refine blk_drew ?_ | refine blk_alloc ?_ _)); refine blk_put (cs := #[.int .i64 t453, .int .i64 t454, .int .i64 t455, .int .i64 x445003_2, .int .i64 x445004_2, .int .i64 x445005_2, .int .i64 x445006_2, .int .i64 x445007_2, .slice Ao41 x445008_2.length co41]) ?_ 3 _ rfl; (with_reducible repeat (first | refine blk_drewN ?_ _ | refine blk_drew ?_ | refine blk_alloc ?_ _)); refine blk_put (cs := #[.int .i64 t453, .int .i64 t454, .int .i64 x445002_2, .int .i64 x445003_2, .int .i64 x445004_2, .int .i64 x445005_2, .int .i64 x445006_2, .int .i64 x445007_2, .slice Ao41 x445008_2.length co41]) ?_ 2 _ rfl; (with_reducible repeat (first | refine blk_drewN ?_ _ | refine blk_drew ?_ | refine blk_alloc ?_ _)); refine blk_put (cs := #[.int .i64 t453, .int .i64 x445001_2, .int .i64 x445002_2, .int .i64 x445003_2, .int .i64 x445004_2, .int .i64 x445005_2, .int .i64 x445006_2, .int .i64 x445007_2, .slice Ao41 x445008_2.length co41]) ?_ 1 _ rfl; (with_reducible repeat (first | refine blk_drewN ?_ _ | refine blk_drew ?_ | refine blk_alloc ?_ _)); refine blk_put (cs := #[.int .i64 x445000_2, .int .i64 x445001_2, .int .i64 x445002_2, .int .i64 x445003_2, .int .i64 x445004_2, .int .i64 x445005_2, .int .i64 x445006_2, .int .i64 x445007_2, .slice Ao41 x445008_2.length co41]) ?_ 0 _ rfl; (with_reducible repeat (first | refine blk_drewN ?_ _ | refine blk_drew ?_ | refine blk_alloc ?_ _)); exact BK444.out⟩, ⟨by repeat (first | (with_reducible first | exact HB.out | apply below_alloc | apply pw_below_drewN | apply below_drew1 | refine below_set ?_ GE440.out | refine below_set ?_ GE444.out) | exact HB.out)⟩⟩
                          · rw [if_neg c38] at H
                            have c38b0 : (((rd_T43 l1 x6_2).f0) == 0) = false := beq_eq_false_iff_ne.mpr c38
                            have c38b1 : (((rd_T43 l1 x6_2).f0) != 0) = true := bne_iff_ne.mpr c38
                            (first | rw [c38b0] | (simp only [i64_w, i32_w]; rw [c38b0]) | skip)
                            replace H := Option.bind_eq_some_iff.mp H
                            obtain ⟨⟨t466, t467, t468, t469, t470, t471, t472, t473, t474, t477⟩, A530, H⟩ := H
                            replace H : (wharflaw19_RateNever.j3 kj24 l1 x6_2 t466 t467 t468 t469 t470 t471 t472 t473 t474) = some r := H
                            have A53 := Aside0.mk A530
                            clear A530
                            have H' := Aside0.mk H
                            clear H
                            try go_wp2
                            have n0_ := Aside0.mk (Kd.V_drew HO_445008.out)
                            have n1_ := Aside0.mk (blk_drew BK440.out)
                            have n2_ := Aside0.mk (blk_drew BK444.out)
                            have n3_ := Aside0.mk (below_drew1 HB.out)
                            clear HO_445008
                            clear BK440
                            clear BK444
                            clear HB
                            have HO_445008 := n0_
                            have BK440 := n1_
                            have BK444 := n2_
                            have HB := n3_
                            clear n0_ n1_ n2_ n3_
                            have p465 : 0 ≤ (x6_2 : Int) := of_decide_eq_true (by first | (with_reducible assumption) | assumption)
                            have q465 : x6_2 < (l1.length : Int) := of_decide_eq_true (by first | (with_reducible assumption) | assumption)
                            obtain ⟨ad465, A465_10, c465_10, A465_11, c465_11, e465, hx465_0, hx465_1, hx465_2, hx465_3, hx465_4, hx465_5, hx465_6, hx465_7, hx465_8, hx465_9, hx465_10, hx465_11, hx465_12, hl465_10, hi465_10, hl465_11, hi465_11⟩ := at_T43 HR1.out x6_2 p465 q465
                            have hw465_12 := hx465_12
                            have hw465_11 := hx465_11
                            have hw465_10 := hx465_10
                            have hw465_9 := hx465_9
                            have hw465_8 := hx465_8
                            have hw465_7 := hx465_7
                            have hw465_6 := hx465_6
                            have hw465_5 := hx465_5
                            have hw465_4 := hx465_4
                            have hw465_3 := hx465_3
                            have hw465_2 := hx465_2
                            have hw465_1 := hx465_1
                            have hw465_0 := hx465_0
                            obtain rfl : ad451 = ad465 := (by injection e465)
                            replace hx465_0 := (HB.out.cell (World.block_lt_of_cell? w _ hx465_0)).trans hx465_0
                            replace hx465_1 := (HB.out.cell (World.block_lt_of_cell? w _ hx465_1)).trans hx465_1
                            replace hx465_2 := (HB.out.cell (World.block_lt_of_cell? w _ hx465_2)).trans hx465_2
                            replace hx465_3 := (HB.out.cell (World.block_lt_of_cell? w _ hx465_3)).trans hx465_3
                            replace hx465_4 := (HB.out.cell (World.block_lt_of_cell? w _ hx465_4)).trans hx465_4
                            replace hx465_5 := (HB.out.cell (World.block_lt_of_cell? w _ hx465_5)).trans hx465_5
                            replace hx465_6 := (HB.out.cell (World.block_lt_of_cell? w _ hx465_6)).trans hx465_6
                            replace hx465_7 := (HB.out.cell (World.block_lt_of_cell? w _ hx465_7)).trans hx465_7
                            replace hx465_8 := (HB.out.cell (World.block_lt_of_cell? w _ hx465_8)).trans hx465_8
                            replace hx465_9 := (HB.out.cell (World.block_lt_of_cell? w _ hx465_9)).trans hx465_9
                            replace hx465_10 := (HB.out.cell (World.block_lt_of_cell? w _ hx465_10)).trans hx465_10
                            replace hx465_11 := (HB.out.cell (World.block_lt_of_cell? w _ hx465_11)).trans hx465_11
                            replace hx465_12 := (HB.out.cell (World.block_lt_of_cell? w _ hx465_12)).trans hx465_12
                            have HR465_10 := Aside0.mk hi465_10
                            have HC465_10 := Aside0.mk hl465_10
                            clear hi465_10 hl465_10
                            have HR465_11 := Aside0.mk hi465_11
                            have HC465_11 := Aside0.mk hl465_11
                            clear hi465_11 hl465_11
                            replace p465 := eq_true p465
                            replace q465 := eq_true q465
                            obtain ⟨Ao55, co55, eo55⟩ := Kd.V_slice HO_445008.out
                            (first | subst eo55 | (injection eo55 with f1_ f2_ f3_; have f4_ := f1_.symm; have f5_ := f3_.symm; clear f1_ f2_ f3_; subst f4_; subst f5_))
                            refine start_ (n := 11) (S := fun w' => w'.cell? ⟨gb444, 0, none⟩ = some (.int .i64 x445000_2) ∧ w'.cell? ⟨gb444, 1, none⟩ = some (.int .i64 x445001_2) ∧ w'.cell? ⟨gb444, 2, none⟩ = some (.int .i64 x445002_2) ∧ w'.cell? ⟨gb444, 3, none⟩ = some (.int .i64 x445003_2) ∧ w'.cell? ⟨gb444, 4, none⟩ = some (.int .i64 x445004_2) ∧ w'.cell? ⟨gb444, 5, none⟩ = some (.int .i64 x445005_2) ∧ w'.cell? ⟨gb444, 6, none⟩ = some (.int .i64 x445006_2) ∧ w'.cell? ⟨gb444, 7, none⟩ = some (.int .i64 x445007_2) ∧ w'.cell? ⟨gb444, 8, none⟩ = some (.slice Ao55 x445008_2.length co55) ∧ w'.cell? (ad451.add ((x6_2).toNat * 13)) = some (.int .i64 ((rd_T43 l1 x6_2).f0)) ∧ w'.cell? ⟨(ad451.add ((x6_2).toNat * 13)).block, (ad451.add ((x6_2).toNat * 13)).off + 1, none⟩ = some (.int .i64 ((rd_T43 l1 x6_2).f1.f0)) ∧ w'.cell? ⟨(ad451.add ((x6_2).toNat * 13)).block, (ad451.add ((x6_2).toNat * 13)).off + 2, none⟩ = some (.string ((rd_T43 l1 x6_2).f1.f1)) ∧ w'.cell? ⟨(ad451.add ((x6_2).toNat * 13)).block, (ad451.add ((x6_2).toNat * 13)).off + 3, none⟩ = some (.string ((rd_T43 l1 x6_2).f1.f2)) ∧ w'.cell? ⟨(ad451.add ((x6_2).toNat * 13)).block, (ad451.add ((x6_2).toNat * 13)).off + 4, none⟩ = some (.string ((rd_T43 l1 x6_2).f1.f3)) ∧ w'.cell? ⟨(ad451.add ((x6_2).toNat * 13)).block, (ad451.add ((x6_2).toNat * 13)).off + 5, none⟩ = some (.int .i64 ((rd_T43 l1 x6_2).f1.f4)) ∧ w'.cell? ⟨(ad451.add ((x6_2).toNat * 13)).block, (ad451.add ((x6_2).toNat * 13)).off + 6, none⟩ = some (.int .i64 ((rd_T43 l1 x6_2).f1.f5)) ∧ w'.cell? ⟨(ad451.add ((x6_2).toNat * 13)).block, (ad451.add ((x6_2).toNat * 13)).off + 7, none⟩ = some (.int .i64 ((rd_T43 l1 x6_2).f1.f6)) ∧ w'.cell? ⟨(ad451.add ((x6_2).toNat * 13)).block, (ad451.add ((x6_2).toNat * 13)).off + 8, none⟩ = some (.int .i64 ((rd_T43 l1 x6_2).f1.f7)) ∧ w'.cell? ⟨(ad451.add ((x6_2).toNat * 13)).block, (ad451.add ((x6_2).toNat * 13)).off + 9, none⟩ = some (.bool ((rd_T43 l1 x6_2).f1.f8)) ∧ w'.cell? ⟨(ad451.add ((x6_2).toNat * 13)).block, (ad451.add ((x6_2).toNat * 13)).off + 10, none⟩ = some (.slice A465_10 ((rd_T43 l1 x6_2).f1.f9).length c465_10) ∧ w'.cell? ⟨(ad451.add ((x6_2).toNat * 13)).block, (ad451.add ((x6_2).toNat * 13)).off + 11, none⟩ = some (.slice A465_11 ((rd_T43 l1 x6_2).f1.f10).length c465_11) ∧ w'.cell? ⟨(ad451.add ((x6_2).toNat * 13)).block, (ad451.add ((x6_2).toNat * 13)).off + 12, none⟩ = some (.int .i64 ((rd_T43 l1 x6_2).f2))) (ds := [10]) #[false, false, false, false, false, false, false, false, false, false, false] (by kernel_rfl) rfl rfl ⟨(blk_cell BK444.out 0).trans rfl, (blk_cell BK444.out 1).trans rfl, (blk_cell BK444.out 2).trans rfl, (blk_cell BK444.out 3).trans rfl, (blk_cell BK444.out 4).trans rfl, (blk_cell BK444.out 5).trans rfl, (blk_cell BK444.out 6).trans rfl, (blk_cell BK444.out 7).trans rfl, (blk_cell BK444.out 8).trans rfl, ((HB.out.cell (World.block_lt_of_cell? w _ hw465_0)).trans hw465_0), ((HB.out.cell (World.block_lt_of_cell? w _ hw465_1)).trans hw465_1), ((HB.out.cell (World.block_lt_of_cell? w _ hw465_2)).trans hw465_2), ((HB.out.cell (World.block_lt_of_cell? w _ hw465_3)).trans hw465_3), ((HB.out.cell (World.block_lt_of_cell? w _ hw465_4)).trans hw465_4), ((HB.out.cell (World.block_lt_of_cell? w _ hw465_5)).trans hw465_5), ((HB.out.cell (World.block_lt_of_cell? w _ hw465_6)).trans hw465_6), ((HB.out.cell (World.block_lt_of_cell? w _ hw465_7)).trans hw465_7), ((HB.out.cell (World.block_lt_of_cell? w _ hw465_8)).trans hw465_8), ((HB.out.cell (World.block_lt_of_cell? w _ hw465_9)).trans hw465_9), ((HB.out.cell (World.block_lt_of_cell? w _ hw465_10)).trans hw465_10), ((HB.out.cell (World.block_lt_of_cell? w _ hw465_11)).trans hw465_11), ((HB.out.cell (World.block_lt_of_cell? w _ hw465_12)).trans hw465_12)⟩ (fun hHeld => ?_); refine with_tabW wharflaw19_RateNever.tab11 wharflaw19_RateNever.bits11 (fun HT_ HW_ => ?_)
                            generalize wc.drew = w54 at HO_445008 BK440 BK444 HB HR465_10 HR465_11 hx465_0 hx465_1 hx465_10 hx465_11 hx465_12 hx465_2 hx465_3 hx465_4 hx465_5 hx465_6 hx465_7 hx465_8 hx465_9 hHeld ⊢
                            refine pure_ (i := 1) (N := some 67) (v := ?_) (a' := ?_) #[false, true, false, false, false, false, false, false, false, false, false] rfl rfl (any_of HT_.out (by kernel_rfl)) (fun _ _ _ h => h) (Or.inl ⟨by rfl, ?_⟩) ?_ ?_
                            rotate_left
                            · intro w'
                              go_simp
                              with_reducible rfl
                            rotate_left
                            · simp only [Act.put, List.setIfInBounds_toArray, List.set_cons_zero, List.set_cons_succ, i64_w, i32_w]
                              rfl
                            refine pure_ (i := 2) (N := some 68) (v := ?_) (a' := ?_) #[false, true, true, false, false, false, false, false, false, false, false] rfl rfl (any_of HT_.out (by kernel_rfl)) (fun _ _ _ h => h) (Or.inl ⟨by rfl, ?_⟩) ?_ ?_
                            rotate_left
                            · intro w'
                              go_simp
                              with_reducible rfl
                            rotate_left
                            · simp only [Act.put, List.setIfInBounds_toArray, List.set_cons_zero, List.set_cons_succ, i64_w, i32_w]
                              rfl
                            refine pure_ (i := 3) (N := some 69) (v := ?_) (a' := ?_) #[false, true, true, true, false, false, false, false, false, false, false] rfl rfl (any_of HT_.out (by kernel_rfl)) (fun _ _ _ h => h) (Or.inl ⟨by rfl, ?_⟩) ?_ ?_
                            rotate_left
                            · intro w'
                              go_simp
                              with_reducible rfl
                            rotate_left
                            · simp only [Act.put, List.setIfInBounds_toArray, List.set_cons_zero, List.set_cons_succ, i64_w, i32_w]
                              rfl
                            refine pure_ (i := 4) (N := some 70) (v := ?_) (a' := ?_) #[false, true, true, true, true, false, false, false, false, false, false] rfl rfl (any_of HT_.out (by kernel_rfl)) (fun _ _ _ h => h) (Or.inl ⟨by rfl, ?_⟩) ?_ ?_
                            rotate_left
                            · intro w'
                              go_simp
                              with_reducible rfl
                            rotate_left
                            · simp only [Act.put, List.setIfInBounds_toArray, List.set_cons_zero, List.set_cons_succ, i64_w, i32_w]
                              rfl
                            refine take_ (i := 0) (N := some 66) (v := ?_) (a' := ?_) #[true, true, true, true, true, false, false, false, false, false, false] rfl rfl (take_ofW HT_.out HW_.out (by kernel_rfl)) (fun _ _ _ h => h) (Or.inl ⟨by rfl, ?_⟩) hHeld ?_ ?_
                            rotate_left
                            · rintro w' ⟨s0, s1, s2, s3, s4, s5, s6, s7, s8, s9, s10, s11, s12, s13, s14, s15, s16, s17, s18, s19, s20, s21⟩
                              go_simp
                              with_reducible rfl
                            rotate_left
                            · simp only [Act.put, List.setIfInBounds_toArray, List.set_cons_zero, List.set_cons_succ, i64_w, i32_w]
                              rfl
                            refine take_ (i := 5) (N := some 71) (v := ?_) (a' := ?_) #[true, true, true, true, true, true, false, false, false, false, false] rfl rfl (take_ofW HT_.out HW_.out (by kernel_rfl)) (fun _ _ _ h => h) (Or.inl ⟨by rfl, ?_⟩) hHeld ?_ ?_
                            rotate_left
                            · rintro w' ⟨s0, s1, s2, s3, s4, s5, s6, s7, s8, s9, s10, s11, s12, s13, s14, s15, s16, s17, s18, s19, s20, s21⟩
                              go_simp
                              with_reducible rfl
                            rotate_left
                            · simp only [Act.put, List.setIfInBounds_toArray, List.set_cons_zero, List.set_cons_succ, i64_w, i32_w]
                              rfl
                            refine one_ (i := 6) (N := some 72) #[true, true, true, true, true, true, true, false, false, false, false] rfl rfl (one_of HT_.out (by kernel_rfl)) (by decide) (fun K hK => ?_)
                            refine goes_ Try.func25 (by kernel_rfl) rfl #[.agg #[.int .i64 x445000_2, .int .i64 x445001_2, .int .i64 x445002_2, .int .i64 x445003_2, .int .i64 x445004_2, .int .i64 x445005_2, .int .i64 x445006_2, .int .i64 x445007_2, .slice Ao55 x445008_2.length co55], .int .i64 ((rd_T43 l1 x6_2).f2)] (by rfl) rfl rfl (by (try simp only [List.map_toArray, List.map_cons, List.map_nil]); first | done | rfl | (simp only [List.length_drop, List.length_take]; rfl)) ?_
                            with_reducible refine (rate_Pop.calls kj24 x445000_2 x445001_2 x445002_2 x445003_2 x445004_2 x445005_2 x445006_2 x445007_2 (fun k_ => (k_ ≠ gb440 ∧ k_ ≠ gb444)) _ _ x445008_2 ((rd_T43 l1 x6_2).f2) t466 t467 t468 t469 t470 t471 t472 t473 t474 t477 _ ?side1 A53.out).mono ?_
                            (case side1 => exact HO_445008.out)
                            rintro e w56 ⟨v475, v478, rfl, ho0, ho1, hb⟩
                            refine ⟨_, rfl, ?_⟩
                            have n0_ := Aside0.mk (Kd.V_mono (Kd.V_told (Kd.V_told (Kd.V_old (by (with_reducible repeat (first | apply Kd.V_alloc | apply Kd.V_drewN | apply Kd.V_drew)); exact HO_445008.out) hb) (Kd.N_base ho0)) (Kd.N_base ho1)) (fun _ h_ => h_.1))
                            have n1_ := Aside0.mk (Kd.N_lower (Kd.N_mono (ok' := fun k_ => some k_ ≠ (v478 : Value).ownBlock ∧ k_ ≠ gb440 ∧ k_ ≠ gb444) ho0 (fun k_ hk_ => ⟨hk_.2, Or.elim hk_.1 (fun hs_ => hs_.1) (fun hn_ => (Kd.freshB (g := gb440) (o := .cells #[.int .i64 a0_0, .int .i64 a0_1, .int .i64 a0_2, .int .i64 a0_3, .int .i64 a0_4, .int .i64 a0_5, .int .i64 a0_6, .int .i64 a0_7] 23 (0, 0)) (by (with_reducible repeat (first | refine blk_drewN ?_ _ | refine blk_drew ?_ | refine blk_alloc ?_ _)); exact BK440.out) k_ hn_)), Or.elim hk_.1 (fun hs_ => hs_.2) (fun hn_ => (Kd.freshB (g := gb444) (o := .cells #[.int .i64 x445000_2, .int .i64 x445001_2, .int .i64 x445002_2, .int .i64 x445003_2, .int .i64 x445004_2, .int .i64 x445005_2, .int .i64 x445006_2, .int .i64 x445007_2, .slice Ao55 x445008_2.length co55] 36 (0, 0)) (by (with_reducible repeat (first | refine blk_drewN ?_ _ | refine blk_drew ?_ | refine blk_alloc ?_ _)); exact BK444.out) k_ hn_))⟩)) (below_size (by repeat (first | (with_reducible first | exact HB.out | apply below_alloc | apply pw_below_drewN | apply below_drew1 | refine below_set ?_ GE440.out | refine below_set ?_ GE444.out) | exact HB.out))))
                            have n2_ := Aside0.mk (Kd.N_lower (Kd.N_mono (ok' := fun k_ => some k_ ≠ (v475 : Value).ownBlock ∧ k_ ≠ gb440 ∧ k_ ≠ gb444) ho1 (fun k_ hk_ => ⟨hk_.2, Or.elim hk_.1 (fun hs_ => hs_.1) (fun hn_ => (Kd.freshB (g := gb440) (o := .cells #[.int .i64 a0_0, .int .i64 a0_1, .int .i64 a0_2, .int .i64 a0_3, .int .i64 a0_4, .int .i64 a0_5, .int .i64 a0_6, .int .i64 a0_7] 23 (0, 0)) (by (with_reducible repeat (first | refine blk_drewN ?_ _ | refine blk_drew ?_ | refine blk_alloc ?_ _)); exact BK440.out) k_ hn_)), Or.elim hk_.1 (fun hs_ => hs_.2) (fun hn_ => (Kd.freshB (g := gb444) (o := .cells #[.int .i64 x445000_2, .int .i64 x445001_2, .int .i64 x445002_2, .int .i64 x445003_2, .int .i64 x445004_2, .int .i64 x445005_2, .int .i64 x445006_2, .int .i64 x445007_2, .slice Ao55 x445008_2.length co55] 36 (0, 0)) (by (with_reducible repeat (first | refine blk_drewN ?_ _ | refine blk_drew ?_ | refine blk_alloc ?_ _)); exact BK444.out) k_ hn_))⟩)) (below_size (by repeat (first | (with_reducible first | exact HB.out | apply below_alloc | apply pw_below_drewN | apply below_drew1 | refine below_set ?_ GE440.out | refine below_set ?_ GE444.out) | exact HB.out))))
                            have n3_ := Aside0.mk (blk_below (g := gb440) (o := .cells #[.int .i64 a0_0, .int .i64 a0_1, .int .i64 a0_2, .int .i64 a0_3, .int .i64 a0_4, .int .i64 a0_5, .int .i64 a0_6, .int .i64 a0_7] 23 (0, 0)) (by (with_reducible repeat (first | refine blk_drewN ?_ _ | refine blk_drew ?_ | refine blk_alloc ?_ _)); exact BK440.out) hb)
                            have n4_ := Aside0.mk (blk_below (g := gb444) (o := .cells #[.int .i64 x445000_2, .int .i64 x445001_2, .int .i64 x445002_2, .int .i64 x445003_2, .int .i64 x445004_2, .int .i64 x445005_2, .int .i64 x445006_2, .int .i64 x445007_2, .slice Ao55 x445008_2.length co55] 36 (0, 0)) (by (with_reducible repeat (first | refine blk_drewN ?_ _ | refine blk_drew ?_ | refine blk_alloc ?_ _)); exact BK444.out) hb)
                            have n5_ := Aside0.mk (below_step (by repeat (first | (with_reducible first | exact HB.out | apply below_alloc | apply pw_below_drewN | apply below_drew1 | refine below_set ?_ GE440.out | refine below_set ?_ GE444.out) | exact HB.out)) hb)
                            clear HO_445008
                            clear BK440
                            clear BK444
                            clear HB
                            have HO_445008 := n0_
                            have HO476 := n1_
                            have HO479 := n2_
                            have BK440 := n3_
                            have BK444 := n4_
                            have HB := n5_
                            clear n0_ n1_ n2_ n3_ n4_ n5_
                            (try clear hb)
                            (try clear hb2)
                            (try clear hk)
                            (try clear hi)
                            (try clear ho0)
                            (try clear ho1)
                            obtain ⟨Ao65, co65, eo65⟩ := Kd.N_slice HO476.out
                            (first | subst eo65 | (injection eo65 with f1_ f2_ f3_; have f4_ := f1_.symm; have f5_ := f3_.symm; clear f1_ f2_ f3_; subst f4_; subst f5_))
                            refine hK.out _ _ ⟨(blk_cell BK444.out 0).trans rfl, (blk_cell BK444.out 1).trans rfl, (blk_cell BK444.out 2).trans rfl, (blk_cell BK444.out 3).trans rfl, (blk_cell BK444.out 4).trans rfl, (blk_cell BK444.out 5).trans rfl, (blk_cell BK444.out 6).trans rfl, (blk_cell BK444.out 7).trans rfl, (blk_cell BK444.out 8).trans rfl, ((HB.out.cell (World.block_lt_of_cell? w _ hw465_0)).trans hw465_0), ((HB.out.cell (World.block_lt_of_cell? w _ hw465_1)).trans hw465_1), ((HB.out.cell (World.block_lt_of_cell? w _ hw465_2)).trans hw465_2), ((HB.out.cell (World.block_lt_of_cell? w _ hw465_3)).trans hw465_3), ((HB.out.cell (World.block_lt_of_cell? w _ hw465_4)).trans hw465_4), ((HB.out.cell (World.block_lt_of_cell? w _ hw465_5)).trans hw465_5), ((HB.out.cell (World.block_lt_of_cell? w _ hw465_6)).trans hw465_6), ((HB.out.cell (World.block_lt_of_cell? w _ hw465_7)).trans hw465_7), ((HB.out.cell (World.block_lt_of_cell? w _ hw465_8)).trans hw465_8), ((HB.out.cell (World.block_lt_of_cell? w _ hw465_9)).trans hw465_9), ((HB.out.cell (World.block_lt_of_cell? w _ hw465_10)).trans hw465_10), ((HB.out.cell (World.block_lt_of_cell? w _ hw465_11)).trans hw465_11), ((HB.out.cell (World.block_lt_of_cell? w _ hw465_12)).trans hw465_12)⟩ (fun hHeld => ?_)
                            clear hK K
                            refine norm_ (a' := ?_) ?_ ?_
                            rotate_left
                            · show Act.put _ (some 72) _ = _
                              simp only [Act.put, List.setIfInBounds_toArray, List.set_cons_zero, List.set_cons_succ, i64_w, i32_w]
                              rfl
                            refine pure_ (i := 7) (N := some 65) (v := ?_) (a' := ?_) #[true, true, true, true, true, true, true, true, false, false, false] rfl rfl (any_of HT_.out (by kernel_rfl)) (fun _ _ _ h => h) (Or.inl ⟨by rfl, ?_⟩) ?_ ?_
                            rotate_left
                            · intro w'
                              go_simp
                              with_reducible rfl
                            rotate_left
                            · simp only [Act.put, List.setIfInBounds_toArray, List.set_cons_zero, List.set_cons_succ, i64_w, i32_w]
                              rfl
                            refine pure_ (i := 8) (N := some 73) (v := ?_) (a' := ?_) #[true, true, true, true, true, true, true, true, true, false, false] rfl rfl (any_of HT_.out (by kernel_rfl)) (fun _ _ _ h => h) (Or.inl ⟨by rfl, ?_⟩) ?_ ?_
                            rotate_left
                            · intro w'
                              go_simp
                              with_reducible rfl
                            rotate_left
                            · simp only [Act.put, List.setIfInBounds_toArray, List.set_cons_zero, List.set_cons_succ, i64_w, i32_w]
                              rfl
                            refine pure_ (i := 9) (N := some 74) (v := ?_) (a' := ?_) #[true, true, true, true, true, true, true, true, true, true, false] rfl rfl (any_of HT_.out (by kernel_rfl)) (fun _ _ _ h => h) (Or.inl ⟨by rfl, ?_⟩) ?_ ?_
                            rotate_left
                            · intro w'
                              go_simp
                              with_reducible rfl
                            rotate_left
                            · simp only [Act.put, List.setIfInBounds_toArray, List.set_cons_zero, List.set_cons_succ, i64_w, i32_w]
                              rfl
                            refine last_ (i := 10) (N := none) #[true, true, true, true, true, true, true, true, true, true, true] rfl rfl (one_of HT_.out (by kernel_rfl)) (by decide) (fun K hK => ?_)
                            have hs57 : w56.cell? ⟨gb444, 0, none⟩ = some (.int .i64 x445000_2) := (blk_cell BK444.out 0).trans rfl
                            have hfs57 := blk_frozen BK444.out 0
                            have hns57_0 := NB440_444.out
                            have hms57_0 := NB444_440.out
                            have hs58 : w56.cell? ⟨gb444, 1, none⟩ = some (.int .i64 x445001_2) := (blk_cell BK444.out 1).trans rfl
                            have hfs58 := blk_frozen BK444.out 1
                            have hns58_0 := NB440_444.out
                            have hms58_0 := NB444_440.out
                            have hs59 : w56.cell? ⟨gb444, 2, none⟩ = some (.int .i64 x445002_2) := (blk_cell BK444.out 2).trans rfl
                            have hfs59 := blk_frozen BK444.out 2
                            have hns59_0 := NB440_444.out
                            have hms59_0 := NB444_440.out
                            have hs60 : w56.cell? ⟨gb444, 3, none⟩ = some (.int .i64 x445003_2) := (blk_cell BK444.out 3).trans rfl
                            have hfs60 := blk_frozen BK444.out 3
                            have hns60_0 := NB440_444.out
                            have hms60_0 := NB444_440.out
                            have hs61 : w56.cell? ⟨gb444, 4, none⟩ = some (.int .i64 x445004_2) := (blk_cell BK444.out 4).trans rfl
                            have hfs61 := blk_frozen BK444.out 4
                            have hns61_0 := NB440_444.out
                            have hms61_0 := NB444_440.out
                            have hs62 : w56.cell? ⟨gb444, 5, none⟩ = some (.int .i64 x445005_2) := (blk_cell BK444.out 5).trans rfl
                            have hfs62 := blk_frozen BK444.out 5
                            have hns62_0 := NB440_444.out
                            have hms62_0 := NB444_440.out
                            have hs63 : w56.cell? ⟨gb444, 6, none⟩ = some (.int .i64 x445006_2) := (blk_cell BK444.out 6).trans rfl
                            have hfs63 := blk_frozen BK444.out 6
                            have hns63_0 := NB440_444.out
                            have hms63_0 := NB444_440.out
                            have hs64 : w56.cell? ⟨gb444, 7, none⟩ = some (.int .i64 x445007_2) := (blk_cell BK444.out 7).trans rfl
                            have hfs64 := blk_frozen BK444.out 7
                            have hns64_0 := NB440_444.out
                            have hms64_0 := NB444_440.out
                            have hs66 : w56.cell? ⟨gb444, 8, none⟩ = some (.slice Ao55 x445008_2.length co55) := (blk_cell BK444.out 8).trans rfl
                            have hfs66 := blk_frozen BK444.out 8
                            have hns66_0 := NB440_444.out
                            have hms66_0 := NB444_440.out
                            refine skip_ (w1 := ?_) (by rfl) rfl ?_ ?_
                            rotate_left
                            · go_simp
                              rfl
                            refine hK.out _ _ ?_
                            clear hK K
                            refine done_ (done_of HT_.out (by kernel_rfl)) ?_
                            try go_wp2
                            go_meet
                            case rel => exact ⟨_, (t466), (t467), (t468), (t469), (t470), (t471), (t472), (t473), (t474), (.slice Ao65 t474.length co65), H', ⟨by have := HJ2.out; have := HK2.out; have := HJ24.out; first | omega | exact Nat.le_refl _⟩, ⟨Kd.N_V (by (with_reducible repeat (first | apply Kd.N_alloc | apply Kd.N_drewN | apply Kd.N_drew)); have zf60_ := Kd.N_mono HO476.out (fun k_ hk => (⟨hk, hk.2.2⟩ : _ ∧ k_ ≠ gb444)); have zf60_ := Kd.N_far (p := ⟨gb444, 0, none⟩) zf60_ (fun _ hk => hk.2) (.int .i64 t466); have zf60_ := Kd.N_far (p := ⟨gb444, 1, none⟩) zf60_ (fun _ hk => hk.2) (.int .i64 t467); have zf60_ := Kd.N_far (p := ⟨gb444, 2, none⟩) zf60_ (fun _ hk => hk.2) (.int .i64 t468); have zf60_ := Kd.N_far (p := ⟨gb444, 3, none⟩) zf60_ (fun _ hk => hk.2) (.int .i64 t469); have zf60_ := Kd.N_far (p := ⟨gb444, 4, none⟩) zf60_ (fun _ hk => hk.2) (.int .i64 t470); have zf60_ := Kd.N_far (p := ⟨gb444, 5, none⟩) zf60_ (fun _ hk => hk.2) (.int .i64 t471); have zf60_ := Kd.N_far (p := ⟨gb444, 6, none⟩) zf60_ (fun _ hk => hk.2) (.int .i64 t472); have zf60_ := Kd.N_far (p := ⟨gb444, 7, none⟩) zf60_ (fun _ hk => hk.2) (.int .i64 t473); have zf60_ := Kd.N_far (p := ⟨gb444, 8, none⟩) zf60_ (fun _ hk => hk.2) (.slice Ao65 t474.length co65); exact Kd.N_mono (zf60_) (fun _ hk => ⟨hk.1.2.1, hk.1.2.2⟩))⟩, ⟨by (with_reducible repeat (first | refine blk_drewN ?_ _ | refine blk_drew ?_ | refine blk_alloc ?_ _)); (iterate 9 (refine blk_far ?_ NB440_444.out _; (with_reducible repeat (first | refine blk_drewN ?_ _ | refine blk_drew ?_ | refine blk_alloc ?_ _)))); exact BK440.out⟩, ⟨by (with_reducible repeat (first | refine blk_drewN ?_ _ | refine blk_drew ?_ | refine blk_alloc ?_ _)); refine blk_put (cs := #[.int .i64 t466, .int .i64 t467, .int .i64 t468, .int .i64 t469, .int .i64 t470, .int .i64 t471, .int .i64 t472, .int .i64 t473, .slice Ao55 x445008_2.length co55]) ?_ 8 _ rfl; (with_reducible repeat (first | refine blk_drewN ?_ _ | refine blk_drew ?_ | refine blk_alloc ?_ _)); refine blk_put (cs := #[.int .i64 t466, .int .i64 t467, .int .i64 t468, .int .i64 t469, .int .i64 t470, .int .i64 t471, .int .i64 t472, .int .i64 x445007_2, .slice Ao55 x445008_2.length co55]) ?_ 7 _ rfl; (with_reducible repeat (first | refine blk_drewN ?_ _ | refine blk_drew ?_ | refine blk_alloc ?_ _)); refine blk_put (cs := #[.int .i64 t466, .int .i64 t467, .int .i64 t468, .int .i64 t469, .int .i64 t470, .int .i64 t471, .int .i64 x445006_2, .int .i64 x445007_2, .slice Ao55 x445008_2.length co55]) ?_ 6 _ rfl; (with_reducible repeat (first | refine blk_drewN ?_ _ | refine blk_drew ?_ | refine blk_alloc ?_ _)); refine blk_put (cs := #[.int .i64 t466, .int .i64 t467, .int .i64 t468, .int .i64 t469, .int .i64 t470, .int .i64 x445005_2, .int .i64 x445006_2, .int .i64 x445007_2, .slice Ao55 x445008_2.length co55]) ?_ 5 _ rfl; (with_reducible repeat (first | refine blk_drewN ?_ _ | refine blk_drew ?_ | refine blk_alloc ?_ _)); refine blk_put (cs := #[.int .i64 t466, .int .i64 t467, .int .i64 t468, .int .i64 t469, .int .i64 x445004_2, .int .i64 x445005_2, .int .i64 x445006_2, .int .i64 x445007_2, .slice Ao55 x445008_2.length co55]) ?_ 4 _ rfl; (with_reducible repeat (first | refine blk_drewN ?_ _ | refine blk_drew ?_ | refine blk_alloc ?_ _)); refine blk_put (cs := #[.int .i64 t466, .int .i64 t467, .int .i64 t468, .int .i64 x445003_2, .int .i64 x445004_2, .int .i64 x445005_2, .int .i64 x445006_2, .int .i64 x445007_2, .slice Ao55 x445008_2.length co55]) ?_ 3 _ rfl; (with_reducible repeat (first | refine blk_drewN ?_ _ | refine blk_drew ?_ | refine blk_alloc ?_ _)); refine blk_put (cs := #[.int .i64 t466, .int .i64 t467, .int .i64 x445002_2, .int .i64 x445003_2, .int .i64 x445004_2, .int .i64 x445005_2, .int .i64 x445006_2, .int .i64 x445007_2, .slice Ao55 x445008_2.length co55]) ?_ 2 _ rfl; (with_reducible repeat (first | refine blk_drewN ?_ _ | refine blk_drew ?_ | refine blk_alloc ?_ _)); refine blk_put (cs := #[.int .i64 t466, .int .i64 x445001_2, .int .i64 x445002_2, .int .i64 x445003_2, .int .i64 x445004_2, .int .i64 x445005_2, .int .i64 x445006_2, .int .i64 x445007_2, .slice Ao55 x445008_2.length co55]) ?_ 1 _ rfl; (with_reducible repeat (first | refine blk_drewN ?_ _ | refine blk_drew ?_ | refine blk_alloc ?_ _)); refine blk_put (cs := #[.int .i64 x445000_2, .int .i64 x445001_2, .int .i64 x445002_2, .int .i64 x445003_2, .int .i64 x445004_2, .int .i64 x445005_2, .int .i64 x445006_2, .int .i64 x445007_2, .slice Ao55 x445008_2.length co55]) ?_ 0 _ rfl; (with_reducible repeat (first | refine blk_drewN ?_ _ | refine blk_drew ?_ | refine blk_alloc ?_ _)); exact BK444.out⟩, ⟨by repeat (first | (with_reducible first | exact HB.out | apply below_alloc | apply pw_below_drewN | apply below_drew1 | refine below_set ?_ GE440.out | refine below_set ?_ GE444.out) | exact HB.out)⟩⟩
                        case rest =>
                          clear HC37
                          try clear c1
                          try clear c2
                          try clear p2
                          try clear c3
                          try clear c4
                          try clear p4
                          try clear q4
                          try clear hx4
                          try clear c13
                          try clear c23
                          try clear c24
                          try clear c24b0
                          try clear c25
                          try clear c32
                          try clear c35
                          try clear c35b0
                          try clear c36
                          try clear c36b0
                          try clear c38
                          try clear c38b0
                          try clear c38b1
                          try clear p44
                          try clear q44
                          try clear hx44
                          try clear c45
                          try clear p45
                          try clear q45
                          try clear hx45
                          try clear c46
                          try clear p46
                          try clear q46
                          try clear hx46
                          try clear hfz12_0
                          try clear hfz12_1
                          try clear hfz12_2
                          try clear hfz12_3
                          try clear hfz12_4
                          try clear hfz12_5
                          try clear hfz12_6
                          try clear hfz12_7
                          try clear hfz14_0
                          try clear hfz14_1
                          try clear hfz14_2
                          try clear hfz14_3
                          try clear hfz14_4
                          try clear hfz14_5
                          try clear hfz14_6
                          try clear hfz14_7
                          try clear hfz15_0
                          try clear hfz15_1
                          try clear hfz15_2
                          try clear hfz15_3
                          try clear hfz15_4
                          try clear hfz15_5
                          try clear hfz15_6
                          try clear hfz15_7
                          try clear hfz20_0
                          try clear hfz20_1
                          try clear hfz20_2
                          try clear hfz20_3
                          try clear hfz20_4
                          try clear hfz20_5
                          try clear hfz20_6
                          try clear hfz20_7
                          try clear hfz23_0
                          try clear hfz23_1
                          try clear hfz23_2
                          try clear hfz23_3
                          try clear hfz23_4
                          try clear hfz23_5
                          try clear hfz23_6
                          try clear hfz23_7
                          try clear hfz23_8
                          try clear hfz9_0
                          try clear hfz9_1
                          try clear hfz9_2
                          try clear hfz9_3
                          try clear hfz9_4
                          try clear hfz9_5
                          try clear hfz9_6
                          try clear hfz9_7
                          try clear hx446_0
                          try clear hx446_1
                          try clear hx446_10
                          try clear hx446_11
                          try clear hx446_12
                          try clear hx446_2
                          try clear hx446_3
                          try clear hx446_4
                          try clear hx446_5
                          try clear hx446_6
                          try clear hx446_7
                          try clear hx446_8
                          try clear hx446_9
                          try clear hx448_0
                          try clear hx448_1
                          try clear hx448_10
                          try clear hx448_11
                          try clear hx448_12
                          try clear hx448_2
                          try clear hx448_3
                          try clear hx448_4
                          try clear hx448_5
                          try clear hx448_6
                          try clear hx448_7
                          try clear hx448_8
                          try clear hx448_9
                          try clear hx451_0
                          try clear hx451_1
                          try clear hx451_10
                          try clear hx451_11
                          try clear hx451_12
                          try clear hx451_2
                          try clear hx451_3
                          try clear hx451_4
                          try clear hx451_5
                          try clear hx451_6
                          try clear hx451_7
                          try clear hx451_8
                          try clear hx451_9
                          try clear hx452_0
                          try clear hx452_1
                          try clear hx452_10
                          try clear hx452_11
                          try clear hx452_12
                          try clear hx452_2
                          try clear hx452_3
                          try clear hx452_4
                          try clear hx452_5
                          try clear hx452_6
                          try clear hx452_7
                          try clear hx452_8
                          try clear hx452_9
                          try clear hx465_0
                          try clear hx465_1
                          try clear hx465_10
                          try clear hx465_11
                          try clear hx465_12
                          try clear hx465_2
                          try clear hx465_3
                          try clear hx465_4
                          try clear hx465_5
                          try clear hx465_6
                          try clear hx465_7
                          try clear hx465_8
                          try clear hx465_9
                          try clear p2
                          try clear p446
                          try clear p448
                          try clear p451
                          try clear p452
                          try clear p465
                          try clear q446
                          try clear q448
                          try clear q451
                          try clear q452
                          try clear q465
                          obtain ⟨kq, x445000_36, x445001_36, x445002_36, x445003_36, x445004_36, x445005_36, x445006_36, x445007_36, x445008_36, u445008, HA, HJ36, HO_445008, BK440, BK444, HB⟩ := hcut
                          cases kq with
                          | zero => exact absurd HA.out (by simp [wharflaw19_RateNever.j3])
                          | succ kj36 =>
                            have H := HA.out
                            clear HA
                            simp only [wharflaw19_RateNever.j3] at H
                            by_cases c67 : x445006_36 < x445003_36
                            · rw [if_pos c67] at H
                              have c67b0 : decide (x445006_36 < x445003_36) = true := decide_eq_true c67
                              clear c67
                              exact absurd (Option.some.inj H) (by rw [HT_.out]; exact Bool.false_ne_true)
                            · rw [if_neg c67] at H
                              have c67b0 : decide (x445006_36 < x445003_36) = false := decide_eq_false c67
                              clear c67
                              replace H := Option.bind_eq_some_iff.mp H
                              obtain ⟨t480, A680, H⟩ := H
                              replace H : ((wharflaw19_num.f t480).bind fun t481 => (if t481 = 0 then (if (x445008_36.length : Int) > 16 then (some false) else (wharflaw19_RateNever.l0 kj36 l1 (wrap64 (x6_2 + 1)) x445000_36 x445001_36 x445002_36 x445003_36 x445004_36 x445005_36 x445006_36 x445007_36 x445008_36)) else (some false))) = some r := H
                              have A68 := Aside0.mk A680
                              clear A680
                              replace H := Option.bind_eq_some_iff.mp H
                              obtain ⟨t481, A690, H⟩ := H
                              replace H : (if t481 = 0 then (if (x445008_36.length : Int) > 16 then (some false) else (wharflaw19_RateNever.l0 kj36 l1 (wrap64 (x6_2 + 1)) x445000_36 x445001_36 x445002_36 x445003_36 x445004_36 x445005_36 x445006_36 x445007_36 x445008_36)) else (some false)) = some r := H
                              have A69 := Aside0.mk A690
                              clear A690
                              by_cases c70 : t481 = 0
                              · rw [if_pos c70] at H
                                have c70b0 : (t481 == 0) = true := beq_iff_eq.mpr c70
                                have c70b1 : (t481 != 0) = false := bne_eq_false_iff_eq.mpr c70
                                clear c70
                                by_cases c71 : (x445008_36.length : Int) > 16
                                · rw [if_pos c71] at H
                                  have c71b0 : decide (16 < (x445008_36.length : Int)) = true := decide_eq_true c71
                                  have c71b1 : decide (16 < x445008_36.length) = true := decide_eq_true (by omega)
                                  clear c71
                                  exact absurd (Option.some.inj H) (by rw [HT_.out]; exact Bool.false_ne_true)
                                · rw [if_neg c71] at H
                                  have c71b0 : decide (16 < (x445008_36.length : Int)) = false := decide_eq_false c71
                                  have c71b1 : decide (16 < x445008_36.length) = false := decide_eq_false (by omega)
                                  clear c71
                                  have H' := Aside0.mk H
                                  clear H
                                  have hnb72 := NB444_440.out
                                  have hnc72 := NB440_444.out
                                  have hcz73_0 : wc.cell? ⟨gb444, 0, none⟩ = some (.int .i64 x445000_36) := (blk_cell BK444.out 0).trans rfl
                                  have hcz73_1 : wc.cell? ⟨gb444, 1, none⟩ = some (.int .i64 x445001_36) := (blk_cell BK444.out 1).trans rfl
                                  have hcz73_2 : wc.cell? ⟨gb444, 2, none⟩ = some (.int .i64 x445002_36) := (blk_cell BK444.out 2).trans rfl
                                  have hcz73_3 : wc.cell? ⟨gb444, 3, none⟩ = some (.int .i64 x445003_36) := (blk_cell BK444.out 3).trans rfl
                                  have hcz73_4 : wc.cell? ⟨gb444, 4, none⟩ = some (.int .i64 x445004_36) := (blk_cell BK444.out 4).trans rfl
                                  have hcz73_5 : wc.cell? ⟨gb444, 5, none⟩ = some (.int .i64 x445005_36) := (blk_cell BK444.out 5).trans rfl
                                  have hcz73_6 : wc.cell? ⟨gb444, 6, none⟩ = some (.int .i64 x445006_36) := (blk_cell BK444.out 6).trans rfl
                                  have hcz73_7 : wc.cell? ⟨gb444, 7, none⟩ = some (.int .i64 x445007_36) := (blk_cell BK444.out 7).trans rfl
                                  have hcz73_8 : wc.cell? ⟨gb444, 8, none⟩ = some (u445008) := (blk_cell BK444.out 8).trans rfl
                                  have hfz73_0 := blk_frozen BK444.out 0
                                  have hfz73_1 := blk_frozen BK444.out 1
                                  have hfz73_2 := blk_frozen BK444.out 2
                                  have hfz73_3 := blk_frozen BK444.out 3
                                  have hfz73_4 := blk_frozen BK444.out 4
                                  have hfz73_5 := blk_frozen BK444.out 5
                                  have hfz73_6 := blk_frozen BK444.out 6
                                  have hfz73_7 := blk_frozen BK444.out 7
                                  have hfz73_8 := blk_frozen BK444.out 8
                                  go_wp2_with (first | (go_at_call 10; (with_reducible refine (rate_Check.calls kj36 x445000_36 x445001_36 x445002_36 x445003_36 x445004_36 x445005_36 x445006_36 x445007_36 t480 _ A68.out).mono ?_); rintro e w74 ⟨rfl, hb⟩; have n0_ := Aside0.mk (Kd.V_below (by (with_reducible repeat (first | apply Kd.V_alloc | apply Kd.V_drewN | apply Kd.V_drew)); exact HO_445008.out) hb); have n1_ := Aside0.mk (blk_below (g := gb440) (o := .cells #[.int .i64 a0_0, .int .i64 a0_1, .int .i64 a0_2, .int .i64 a0_3, .int .i64 a0_4, .int .i64 a0_5, .int .i64 a0_6, .int .i64 a0_7] 23 (0, 0)) (by (with_reducible repeat (first | refine blk_drewN ?_ _ | refine blk_drew ?_ | refine blk_alloc ?_ _)); exact BK440.out) hb); have n2_ := Aside0.mk (blk_below (g := gb444) (o := .cells #[.int .i64 x445000_36, .int .i64 x445001_36, .int .i64 x445002_36, .int .i64 x445003_36, .int .i64 x445004_36, .int .i64 x445005_36, .int .i64 x445006_36, .int .i64 x445007_36, u445008] 36 (0, 0)) (by (with_reducible repeat (first | refine blk_drewN ?_ _ | refine blk_drew ?_ | refine blk_alloc ?_ _)); exact BK444.out) hb); have n3_ := Aside0.mk (below_step (by repeat (first | (with_reducible first | exact HB.out | apply below_alloc | apply pw_below_drewN | apply below_drew1 | refine below_set ?_ GE440.out | refine below_set ?_ GE444.out) | exact HB.out)) hb); clear HO_445008; clear BK440; clear BK444; clear HB; have HO_445008 := n0_; have BK440 := n1_; have BK444 := n2_; have HB := n3_; clear n0_ n1_ n2_ n3_; (try clear hb); (try clear hb2); (try clear hk); (try clear hi)) | (go_at_call 9; (with_reducible refine (wharflaw19_num.calls t480 t481 _ A69.out).mono ?_); rintro e w' ⟨rfl, ⟨nd, rfl⟩⟩; have hcz75_0 : w74.cell? ⟨gb444, 0, none⟩ = some (.int .i64 x445000_36) := (blk_cell BK444.out 0).trans rfl; have hcz75_1 : w74.cell? ⟨gb444, 1, none⟩ = some (.int .i64 x445001_36) := (blk_cell BK444.out 1).trans rfl; have hcz75_2 : w74.cell? ⟨gb444, 2, none⟩ = some (.int .i64 x445002_36) := (blk_cell BK444.out 2).trans rfl; have hcz75_3 : w74.cell? ⟨gb444, 3, none⟩ = some (.int .i64 x445003_36) := (blk_cell BK444.out 3).trans rfl; have hcz75_4 : w74.cell? ⟨gb444, 4, none⟩ = some (.int .i64 x445004_36) := (blk_cell BK444.out 4).trans rfl; have hcz75_5 : w74.cell? ⟨gb444, 5, none⟩ = some (.int .i64 x445005_36) := (blk_cell BK444.out 5).trans rfl; have hcz75_6 : w74.cell? ⟨gb444, 6, none⟩ = some (.int .i64 x445006_36) := (blk_cell BK444.out 6).trans rfl; have hcz75_7 : w74.cell? ⟨gb444, 7, none⟩ = some (.int .i64 x445007_36) := (blk_cell BK444.out 7).trans rfl; have hcz75_8 : w74.cell? ⟨gb444, 8, none⟩ = some (u445008) := (blk_cell BK444.out 8).trans rfl; have hfz75_0 := blk_frozen BK444.out 0; have hfz75_1 := blk_frozen BK444.out 1; have hfz75_2 := blk_frozen BK444.out 2; have hfz75_3 := blk_frozen BK444.out 3; have hfz75_4 := blk_frozen BK444.out 4; have hfz75_5 := blk_frozen BK444.out 5; have hfz75_6 := blk_frozen BK444.out 6; have hfz75_7 := blk_frozen BK444.out 7; have hfz75_8 := blk_frozen BK444.out 8; obtain ⟨Ao76, co76, eo76⟩ := Kd.V_slice HO_445008.out; subst eo76))
                                  go_roundg kj36
                                  case measure => have := HJ2.out; have := HK2.out; have := HJ24.out; have := HJ36.out; omega
                                  case rel => exact ⟨(wrap64 (x6_2 + 1)), (x445000_36), (x445001_36), (x445002_36), (x445003_36), (x445004_36), (x445005_36), (x445006_36), (x445007_36), (x445008_36), (.slice Ao76 x445008_36.length co76), (by first | rfl | (simp; done) | (simp [*]; done)), H', ⟨by have := HJ2.out; have := HK2.out; have := HJ24.out; have := HJ36.out; omega⟩, ⟨by (with_reducible repeat (first | apply Kd.V_alloc | apply Kd.V_drewN | apply Kd.V_drew)); exact HO_445008.out⟩, ⟨by (with_reducible repeat (first | refine blk_drewN ?_ _ | refine blk_drew ?_ | refine blk_alloc ?_ _)); exact BK440.out⟩, ⟨by (with_reducible repeat (first | refine blk_drewN ?_ _ | refine blk_drew ?_ | refine blk_alloc ?_ _)); exact BK444.out⟩, ⟨by repeat (first | (with_reducible first | exact HB.out | apply below_alloc | apply pw_below_drewN | apply below_drew1 | refine below_set ?_ GE440.out | refine below_set ?_ GE444.out) | exact HB.out)⟩⟩
                              · rw [if_neg c70] at H
                                have c70b0 : (t481 == 0) = false := beq_eq_false_iff_ne.mpr c70
                                have c70b1 : (t481 != 0) = true := bne_iff_ne.mpr c70
                                exact absurd (Option.some.inj H) (by rw [HT_.out]; exact Bool.false_ne_true)
                      · rw [if_neg c36] at H
                        exact absurd H (by simp)
                    · rw [if_neg c35] at H
                      exact absurd H (by simp)
            · rw [if_neg c24] at H
              have c24b0 : decide (x6_2 < (l1.length : Int)) = false := decide_eq_false c24
              clear c24
              replace H := Option.bind_eq_some_iff.mp H
              obtain ⟨t445, A770, H⟩ := H
              replace H : (some t445) = some r := H
              have A77 := Aside0.mk A770
              clear A770
              obtain rfl := Option.some.inj H
              go_wp2_with (first | ((with_reducible refine gate_callee (f := 13) rfl ?_); refine goesL_ (some 95) rfl rfl Try.func13 (by kernel_rfl) rfl #[] rfl (by (try simp only [List.map_toArray, List.map_cons, List.map_nil]); first | done | rfl | (simp only [List.length_drop, List.length_take]; rfl)) ?_; (with_reducible refine (wharflaw19_live.calls k2  t445 _ A77.out).mono ?_); rintro e w78 ⟨rfl, hb⟩; refine ⟨_, rfl, ?_⟩; have n0_ := Aside0.mk (Kd.V_below (by (with_reducible repeat (first | apply Kd.V_alloc | apply Kd.V_drewN | apply Kd.V_drew)); exact HO_445008.out) hb); have n1_ := Aside0.mk (blk_below (g := gb440) (o := .cells #[.int .i64 a0_0, .int .i64 a0_1, .int .i64 a0_2, .int .i64 a0_3, .int .i64 a0_4, .int .i64 a0_5, .int .i64 a0_6, .int .i64 a0_7] 23 (0, 0)) (by (with_reducible repeat (first | refine blk_drewN ?_ _ | refine blk_drew ?_ | refine blk_alloc ?_ _)); exact BK440.out) hb); have n2_ := Aside0.mk (blk_below (g := gb444) (o := .cells #[.int .i64 x445000_2, .int .i64 x445001_2, .int .i64 x445002_2, .int .i64 x445003_2, .int .i64 x445004_2, .int .i64 x445005_2, .int .i64 x445006_2, .int .i64 x445007_2, u445008] 36 (0, 0)) (by (with_reducible repeat (first | refine blk_drewN ?_ _ | refine blk_drew ?_ | refine blk_alloc ?_ _)); exact BK444.out) hb); have n3_ := Aside0.mk (below_step (by repeat (first | (with_reducible first | exact HB.out | apply below_alloc | apply pw_below_drewN | apply below_drew1 | refine below_set ?_ GE440.out | refine below_set ?_ GE444.out) | exact HB.out)) hb); clear HO_445008; clear BK440; clear BK444; clear HB; have HO_445008 := n0_; have BK440 := n1_; have BK444 := n2_; have HB := n3_; clear n0_ n1_ n2_ n3_; (try clear hb); (try clear hb2); (try clear hk); (try clear hi)))
              go_ret
              exact ⟨by first | rfl | (simp [errW_none, errW_some] <;> rfl) | (simp [*, errW_none, errW_some] <;> rfl), by repeat (first | (with_reducible first | exact HB.out | apply below_alloc | apply pw_below_drewN | apply below_drew1 | refine below_set ?_ GE440.out | refine below_set ?_ GE444.out) | exact HB.out)⟩

end Go.Proofs.Ytbeclnffcapfpaa.H
