-- written by hp.py for this claim, out of the kit's printer and texts of my own
import Derived.Test.YtbeclnffcapfpaaHx0
import Derived.Test.YtbeclnffcapfpaaHx9
import Derived.Test.YtbeclnffcapfpaaHx10
import Derived.Test.YtbeclnffcapfpaaHx12
import Derived.Test.YtbeclnffcapfpaaHx13
import Derived.Test.YtbeclnffcapfpaaHx20
import Derived.Test.YtbeclnffcapfpaaHx23
import Derived.Test.YtbeclnffcapfpaaHx25
import Derived.Test.YtbeclnffcapfpaaHx27
import Derived.Test.YtbeclnffcapfpaaHx28
namespace Go.Proofs.Ytbeclnffcapfpaa.H
open Go.RowKit Go.Proofs.YtbeclnffcapfpaaW.PrintWords Go.Proofs.YtbeclnffcapfpaaW.PrintLast Go.Proofs.YtbeclnffcapfpaaW.PrintMore
theorem N_thru7_ {α : Type} {d : Kd α} {e base : Nat} {w w' : World} {ok : Nat → Prop} {v : Value} {xs : List α} (h : Kd.N d e w base ok v xs) (f : Kd.N d e w base ok v xs → Kd.N d e w' base ok v xs) : Kd.N d e w' base ok v xs := f h
theorem V_thru7_ {α : Type} {d : Kd α} {e base : Nat} {w w' : World} {ok : Nat → Prop} {v : Value} {xs : List α} (h : Kd.V d e w base ok v xs) (f : Kd.V d e w base ok v xs → Kd.V d e w' base ok v xs) : Kd.V d e w' base ok v xs := f h
attribute [local go_sem] max2_int min2_int max_two min_two max_three min_three max_four min_four   -- for this text's walks alone
set_option linter.unusedVariables false
set_option linter.unusedSimpArgs false

/-! ### wharflaw19_RateOrder: function 7 -/
mutual
def wharflaw19_RateOrder.j0 : Nat → List (S41) → Int → Bool → Int → Int → Int → Int → Int → Int → Int → Int → Option (Bool)
 | 0, _, _, _, _, _, _, _, _, _, _, _ => none
 | k + 1, x1, x2, x34, x502000, x502001, x502002, x502003, x502004, x502005, x502006, x502007 => if x34 = true then ((wharflaw19_live.f k).bind fun t506 => (some t506)) else (wharflaw19_RateOrder.l0 k x1 x2 0 x502000 x502001 x502002 x502003 x502004 x502005 x502006 x502007 ([] : List (S41)))
def wharflaw19_RateOrder.l0 : Nat → List (S41) → Int → Int → Int → Int → Int → Int → Int → Int → Int → Int → List (S41) → Option (Bool)
 | 0, _, _, _, _, _, _, _, _, _, _, _, _ => none
 | k + 1, x1, x2, x8, x508000, x508001, x508002, x508003, x508004, x508005, x508006, x508007, x508008 => if x8 < (x1.length : Int) then (if 0 ≤ x8 then (if ((rd_T41 x1 x8).f0) = 11 then (wharflaw19_RateOrder.j2 k x1 x2 x8 true x508000 x508001 x508002 x508003 x508004 x508005 x508006 x508007 x508008) else (wharflaw19_RateOrder.j2 k x1 x2 x8 (((rd_T41 x1 x8).f0) == 12) x508000 x508001 x508002 x508003 x508004 x508005 x508006 x508007 x508008)) else (none)) else (wharflaw19_RateOrder.l1 k x1 x2 ([] : List (S41)) 0 x508000 x508001 x508002 x508003 x508004 x508005 x508006 x508007 x508008)
def wharflaw19_RateOrder.j2 : Nat → List (S41) → Int → Int → Bool → Int → Int → Int → Int → Int → Int → Int → Int → List (S41) → Option (Bool)
 | 0, _, _, _, _, _, _, _, _, _, _, _, _, _ => none
 | k + 1, x1, x2, x8, x57, x508000, x508001, x508002, x508003, x508004, x508005, x508006, x508007, x508008 => if x57 = true then ((wharflaw19_live.f k).bind fun t510 => (some t510)) else (if 0 ≤ x8 then (if x8 < (x1.length : Int) then ((rate_Push.f k x508000 x508001 x508002 x508003 x508004 x508005 x508006 x508007 x508008 ((rd_T41 x1 x8).f0) ((rd_T41 x1 x8).f1) ((rd_T41 x1 x8).f2) ((rd_T41 x1 x8).f3) ((rd_T41 x1 x8).f4) ((rd_T41 x1 x8).f5) ((rd_T41 x1 x8).f6) ((rd_T41 x1 x8).f7) ((rd_T41 x1 x8).f8) ((rd_T41 x1 x8).f9) ((rd_T41 x1 x8).f10)).bind fun bt512 => ((wharflaw19_num.f bt512.2.2.2.2.2.2.2.2.2).bind fun t525 => (if t525 = 0 then (wharflaw19_RateOrder.l0 k x1 x2 (wrap64 (x8 + 1)) bt512.1 bt512.2.1 bt512.2.2.1 bt512.2.2.2.1 bt512.2.2.2.2.1 bt512.2.2.2.2.2.1 bt512.2.2.2.2.2.2.1 bt512.2.2.2.2.2.2.2.1 bt512.2.2.2.2.2.2.2.2.1) else (some false)))) else (none)) else (none))
def wharflaw19_RateOrder.l1 : Nat → List (S41) → Int → List (S41) → Int → Int → Int → Int → Int → Int → Int → Int → Int → List (S41) → Option (Bool)
 | 0, _, _, _, _, _, _, _, _, _, _, _, _, _ => none
 | k + 1, x1, x2, x11, x12, x508000, x508001, x508002, x508003, x508004, x508005, x508006, x508007, x508008 => if x12 ≤ 16 then (wharflaw19_RateOrder.j4 k x1 x2 x11 x12 (decide ((x508008.length : Int) > 0)) x508000 x508001 x508002 x508003 x508004 x508005 x508006 x508007 x508008) else (wharflaw19_RateOrder.j4 k x1 x2 x11 x12 false x508000 x508001 x508002 x508003 x508004 x508005 x508006 x508007 x508008)
def wharflaw19_RateOrder.j4 : Nat → List (S41) → Int → List (S41) → Int → Bool → Int → Int → Int → Int → Int → Int → Int → Int → List (S41) → Option (Bool)
 | 0, _, _, _, _, _, _, _, _, _, _, _, _, _, _ => none
 | k + 1, x1, x2, x11, x12, x79, x508000, x508001, x508002, x508003, x508004, x508005, x508006, x508007, x508008 => if x79 = true then ((rate_Pop.f k x508000 x508001 x508002 x508003 x508004 x508005 x508006 x508007 x508008 x2).bind fun bt531 => (if x11.length + bt531.2.2.2.2.2.2.2.2.2.length < 977343669134 then ((some (x11 ++ bt531.2.2.2.2.2.2.2.2.2 : List (S41))).bind fun y546 => (if (wrap64 ((bt531.2.2.2.2.2.2.2.2.2.length : Int) + (bt531.2.2.2.2.2.2.2.2.1.length : Int))) = (x508008.length : Int) then ((rate_Wait.f k bt531.1 bt531.2.1 bt531.2.2.1 bt531.2.2.2.1 bt531.2.2.2.2.1 bt531.2.2.2.2.2.1 bt531.2.2.2.2.2.2.1 bt531.2.2.2.2.2.2.2.1 x2).bind fun t549 => (if t549 > (wrap64 (4503599627370496 - x2)) then (if y546.length + bt531.2.2.2.2.2.2.2.2.1.length < 977343669134 then ((wharfref14_List.f k (y546 ++ bt531.2.2.2.2.2.2.2.2.1) x1).bind fun t553 => (if t553 = true then ((wharflaw19_live.f k).bind fun t554 => (some t554)) else (some false))) else (none)) else (wharflaw19_RateOrder.l1 k x1 (wrap64 (x2 + t549)) y546 (wrap64 (x12 + 1)) bt531.1 bt531.2.1 bt531.2.2.1 bt531.2.2.2.1 bt531.2.2.2.2.1 bt531.2.2.2.2.2.1 bt531.2.2.2.2.2.2.1 bt531.2.2.2.2.2.2.2.1 bt531.2.2.2.2.2.2.2.2.1))) else (some false))) else (none))) else (if x11.length + x508008.length < 977343669134 then ((wharfref14_List.f k (x11 ++ x508008) x1).bind fun t529 => (if t529 = true then ((wharflaw19_live.f k).bind fun t530 => (some t530)) else (some false))) else (none))
end
def wharflaw19_RateOrder.f (k : Nat) (a0_0 : Int) (a0_1 : Int) (a0_2 : Int) (a0_3 : Int) (a0_4 : Int) (a0_5 : Int) (a0_6 : Int) (a0_7 : Int) (l1 : List (S41)) (a2 : Int) : Option (Bool) := (rate_Check.f k a0_0 a0_1 a0_2 a0_3 a0_4 a0_5 a0_6 a0_7).bind fun t502 => ((wharflaw19_num.f t502).bind fun t503 => (if t503 = 0 then ((wharflaw19_line.f k l1).bind fun t504 => (if t504 = true then ((wharflaw19_time.f a2).bind fun t505 => (if t505 = true then (wharflaw19_RateOrder.j0 k l1 a2 (decide ((l1.length : Int) > 16)) a0_0 a0_1 a0_2 a0_3 a0_4 a0_5 a0_6 a0_7) else (wharflaw19_RateOrder.j0 k l1 a2 true a0_0 a0_1 a0_2 a0_3 a0_4 a0_5 a0_6 a0_7))) else (wharflaw19_RateOrder.j0 k l1 a2 true a0_0 a0_1 a0_2 a0_3 a0_4 a0_5 a0_6 a0_7))) else (wharflaw19_RateOrder.j0 k l1 a2 true a0_0 a0_1 a0_2 a0_3 a0_4 a0_5 a0_6 a0_7)))
theorem wharflaw19_RateOrder.mono_l : ∀ k, (∀ y0 y1 y2 y3 y4 y5 y6 y7 y8 y9 y10, LeO (wharflaw19_RateOrder.j0 k y0 y1 y2 y3 y4 y5 y6 y7 y8 y9 y10) (wharflaw19_RateOrder.j0 (k + 1) y0 y1 y2 y3 y4 y5 y6 y7 y8 y9 y10)) ∧ (∀ y0 y1 y2 y3 y4 y5 y6 y7 y8 y9 y10 y11, LeO (wharflaw19_RateOrder.l0 k y0 y1 y2 y3 y4 y5 y6 y7 y8 y9 y10 y11) (wharflaw19_RateOrder.l0 (k + 1) y0 y1 y2 y3 y4 y5 y6 y7 y8 y9 y10 y11)) ∧ (∀ y0 y1 y2 y3 y4 y5 y6 y7 y8 y9 y10 y11 y12, LeO (wharflaw19_RateOrder.j2 k y0 y1 y2 y3 y4 y5 y6 y7 y8 y9 y10 y11 y12) (wharflaw19_RateOrder.j2 (k + 1) y0 y1 y2 y3 y4 y5 y6 y7 y8 y9 y10 y11 y12)) ∧ (∀ y0 y1 y2 y3 y4 y5 y6 y7 y8 y9 y10 y11 y12, LeO (wharflaw19_RateOrder.l1 k y0 y1 y2 y3 y4 y5 y6 y7 y8 y9 y10 y11 y12) (wharflaw19_RateOrder.l1 (k + 1) y0 y1 y2 y3 y4 y5 y6 y7 y8 y9 y10 y11 y12)) ∧ (∀ y0 y1 y2 y3 y4 y5 y6 y7 y8 y9 y10 y11 y12 y13, LeO (wharflaw19_RateOrder.j4 k y0 y1 y2 y3 y4 y5 y6 y7 y8 y9 y10 y11 y12 y13) (wharflaw19_RateOrder.j4 (k + 1) y0 y1 y2 y3 y4 y5 y6 y7 y8 y9 y10 y11 y12 y13))
 | 0 => ⟨fun _ _ _ _ _ _ _ _ _ _ _ r h => by simp [wharflaw19_RateOrder.j0] at h, fun _ _ _ _ _ _ _ _ _ _ _ _ r h => by simp [wharflaw19_RateOrder.l0] at h, fun _ _ _ _ _ _ _ _ _ _ _ _ _ r h => by simp [wharflaw19_RateOrder.j2] at h, fun _ _ _ _ _ _ _ _ _ _ _ _ _ r h => by simp [wharflaw19_RateOrder.l1] at h, fun _ _ _ _ _ _ _ _ _ _ _ _ _ _ r h => by simp [wharflaw19_RateOrder.j4] at h⟩
 | k + 1 => by
  obtain ⟨ih0, ih1, ih2, ih3, ih4⟩ := wharflaw19_RateOrder.mono_l k
  refine ⟨?_, ?_, ?_, ?_, ?_⟩
  ·
   intro y0 y1 y2 y3 y4 y5 y6 y7 y8 y9 y10
   unfold wharflaw19_RateOrder.j0
   repeat' first
   | (with_reducible exact ih0 _ _ _ _ _ _ _ _ _ _ _)
   | (with_reducible exact ih1 _ _ _ _ _ _ _ _ _ _ _ _)
   | (with_reducible exact ih2 _ _ _ _ _ _ _ _ _ _ _ _ _)
   | (with_reducible exact ih3 _ _ _ _ _ _ _ _ _ _ _ _ _)
   | (with_reducible exact ih4 _ _ _ _ _ _ _ _ _ _ _ _ _ _)
   | (with_reducible exact rate_Check.mono _ _ _ _ _ _ _ _ _)
   | (with_reducible exact rate_Pop.mono _ _ _ _ _ _ _ _ _ _ _)
   | (with_reducible exact rate_Push.mono _ _ _ _ _ _ _ _ _ _ _ _ _ _ _ _ _ _ _ _ _)
   | (with_reducible exact rate_Wait.mono _ _ _ _ _ _ _ _ _ _)
   | (with_reducible exact wharflaw19_line.mono _ _)
   | (with_reducible exact wharflaw19_live.mono _)
   | (with_reducible exact wharfref14_List.mono _ _ _)
   | (with_reducible exact LeO.refl _)
   | (with_reducible exact LeO.none _)
   | (with_reducible refine LeO.ite ?_ ?_)
   | (with_reducible refine LeO.bind ?_ (fun _ => ?_))
   | exact ih0 _ _ _ _ _ _ _ _ _ _ _
   | exact ih1 _ _ _ _ _ _ _ _ _ _ _ _
   | exact ih2 _ _ _ _ _ _ _ _ _ _ _ _ _
   | exact ih3 _ _ _ _ _ _ _ _ _ _ _ _ _
   | exact ih4 _ _ _ _ _ _ _ _ _ _ _ _ _ _
   | exact rate_Check.mono _ _ _ _ _ _ _ _ _
   | exact rate_Pop.mono _ _ _ _ _ _ _ _ _ _ _
   | exact rate_Push.mono _ _ _ _ _ _ _ _ _ _ _ _ _ _ _ _ _ _ _ _ _
   | exact rate_Wait.mono _ _ _ _ _ _ _ _ _ _
   | exact wharflaw19_line.mono _ _
   | exact wharflaw19_live.mono _
   | exact wharfref14_List.mono _ _ _
   | exact LeO.none _
   | refine LeO.ite ?_ ?_
   | refine LeO.bind ?_ (fun _ => ?_)
  ·
   intro y0 y1 y2 y3 y4 y5 y6 y7 y8 y9 y10 y11
   unfold wharflaw19_RateOrder.l0
   repeat' first
   | (with_reducible exact ih0 _ _ _ _ _ _ _ _ _ _ _)
   | (with_reducible exact ih1 _ _ _ _ _ _ _ _ _ _ _ _)
   | (with_reducible exact ih2 _ _ _ _ _ _ _ _ _ _ _ _ _)
   | (with_reducible exact ih3 _ _ _ _ _ _ _ _ _ _ _ _ _)
   | (with_reducible exact ih4 _ _ _ _ _ _ _ _ _ _ _ _ _ _)
   | (with_reducible exact rate_Check.mono _ _ _ _ _ _ _ _ _)
   | (with_reducible exact rate_Pop.mono _ _ _ _ _ _ _ _ _ _ _)
   | (with_reducible exact rate_Push.mono _ _ _ _ _ _ _ _ _ _ _ _ _ _ _ _ _ _ _ _ _)
   | (with_reducible exact rate_Wait.mono _ _ _ _ _ _ _ _ _ _)
   | (with_reducible exact wharflaw19_line.mono _ _)
   | (with_reducible exact wharflaw19_live.mono _)
   | (with_reducible exact wharfref14_List.mono _ _ _)
   | (with_reducible exact LeO.refl _)
   | (with_reducible exact LeO.none _)
   | (with_reducible refine LeO.ite ?_ ?_)
   | (with_reducible refine LeO.bind ?_ (fun _ => ?_))
   | exact ih0 _ _ _ _ _ _ _ _ _ _ _
   | exact ih1 _ _ _ _ _ _ _ _ _ _ _ _
   | exact ih2 _ _ _ _ _ _ _ _ _ _ _ _ _
   | exact ih3 _ _ _ _ _ _ _ _ _ _ _ _ _
   | exact ih4 _ _ _ _ _ _ _ _ _ _ _ _ _ _
   | exact rate_Check.mono _ _ _ _ _ _ _ _ _
   | exact rate_Pop.mono _ _ _ _ _ _ _ _ _ _ _
   | exact rate_Push.mono _ _ _ _ _ _ _ _ _ _ _ _ _ _ _ _ _ _ _ _ _
   | exact rate_Wait.mono _ _ _ _ _ _ _ _ _ _
   | exact wharflaw19_line.mono _ _
   | exact wharflaw19_live.mono _
   | exact wharfref14_List.mono _ _ _
   | exact LeO.none _
   | refine LeO.ite ?_ ?_
   | refine LeO.bind ?_ (fun _ => ?_)
  ·
   intro y0 y1 y2 y3 y4 y5 y6 y7 y8 y9 y10 y11 y12
   unfold wharflaw19_RateOrder.j2
   repeat' first
   | (with_reducible exact ih0 _ _ _ _ _ _ _ _ _ _ _)
   | (with_reducible exact ih1 _ _ _ _ _ _ _ _ _ _ _ _)
   | (with_reducible exact ih2 _ _ _ _ _ _ _ _ _ _ _ _ _)
   | (with_reducible exact ih3 _ _ _ _ _ _ _ _ _ _ _ _ _)
   | (with_reducible exact ih4 _ _ _ _ _ _ _ _ _ _ _ _ _ _)
   | (with_reducible exact rate_Check.mono _ _ _ _ _ _ _ _ _)
   | (with_reducible exact rate_Pop.mono _ _ _ _ _ _ _ _ _ _ _)
   | (with_reducible exact rate_Push.mono _ _ _ _ _ _ _ _ _ _ _ _ _ _ _ _ _ _ _ _ _)
   | (with_reducible exact rate_Wait.mono _ _ _ _ _ _ _ _ _ _)
   | (with_reducible exact wharflaw19_line.mono _ _)
   | (with_reducible exact wharflaw19_live.mono _)
   | (with_reducible exact wharfref14_List.mono _ _ _)
   | (with_reducible exact LeO.refl _)
   | (with_reducible exact LeO.none _)
   | (with_reducible refine LeO.ite ?_ ?_)
   | (with_reducible refine LeO.bind ?_ (fun _ => ?_))
   | exact ih0 _ _ _ _ _ _ _ _ _ _ _
   | exact ih1 _ _ _ _ _ _ _ _ _ _ _ _
   | exact ih2 _ _ _ _ _ _ _ _ _ _ _ _ _
   | exact ih3 _ _ _ _ _ _ _ _ _ _ _ _ _
   | exact ih4 _ _ _ _ _ _ _ _ _ _ _ _ _ _
   | exact rate_Check.mono _ _ _ _ _ _ _ _ _
   | exact rate_Pop.mono _ _ _ _ _ _ _ _ _ _ _
   | exact rate_Push.mono _ _ _ _ _ _ _ _ _ _ _ _ _ _ _ _ _ _ _ _ _
   | exact rate_Wait.mono _ _ _ _ _ _ _ _ _ _
   | exact wharflaw19_line.mono _ _
   | exact wharflaw19_live.mono _
   | exact wharfref14_List.mono _ _ _
   | exact LeO.none _
   | refine LeO.ite ?_ ?_
   | refine LeO.bind ?_ (fun _ => ?_)
  ·
   intro y0 y1 y2 y3 y4 y5 y6 y7 y8 y9 y10 y11 y12
   unfold wharflaw19_RateOrder.l1
   repeat' first
   | (with_reducible exact ih0 _ _ _ _ _ _ _ _ _ _ _)
   | (with_reducible exact ih1 _ _ _ _ _ _ _ _ _ _ _ _)
   | (with_reducible exact ih2 _ _ _ _ _ _ _ _ _ _ _ _ _)
   | (with_reducible exact ih3 _ _ _ _ _ _ _ _ _ _ _ _ _)
   | (with_reducible exact ih4 _ _ _ _ _ _ _ _ _ _ _ _ _ _)
   | (with_reducible exact rate_Check.mono _ _ _ _ _ _ _ _ _)
   | (with_reducible exact rate_Pop.mono _ _ _ _ _ _ _ _ _ _ _)
   | (with_reducible exact rate_Push.mono _ _ _ _ _ _ _ _ _ _ _ _ _ _ _ _ _ _ _ _ _)
   | (with_reducible exact rate_Wait.mono _ _ _ _ _ _ _ _ _ _)
   | (with_reducible exact wharflaw19_line.mono _ _)
   | (with_reducible exact wharflaw19_live.mono _)
   | (with_reducible exact wharfref14_List.mono _ _ _)
   | (with_reducible exact LeO.refl _)
   | (with_reducible exact LeO.none _)
   | (with_reducible refine LeO.ite ?_ ?_)
   | (with_reducible refine LeO.bind ?_ (fun _ => ?_))
   | exact ih0 _ _ _ _ _ _ _ _ _ _ _
   | exact ih1 _ _ _ _ _ _ _ _ _ _ _ _
   | exact ih2 _ _ _ _ _ _ _ _ _ _ _ _ _
   | exact ih3 _ _ _ _ _ _ _ _ _ _ _ _ _
   | exact ih4 _ _ _ _ _ _ _ _ _ _ _ _ _ _
   | exact rate_Check.mono _ _ _ _ _ _ _ _ _
   | exact rate_Pop.mono _ _ _ _ _ _ _ _ _ _ _
   | exact rate_Push.mono _ _ _ _ _ _ _ _ _ _ _ _ _ _ _ _ _ _ _ _ _
   | exact rate_Wait.mono _ _ _ _ _ _ _ _ _ _
   | exact wharflaw19_line.mono _ _
   | exact wharflaw19_live.mono _
   | exact wharfref14_List.mono _ _ _
   | exact LeO.none _
   | refine LeO.ite ?_ ?_
   | refine LeO.bind ?_ (fun _ => ?_)
  ·
   intro y0 y1 y2 y3 y4 y5 y6 y7 y8 y9 y10 y11 y12 y13
   unfold wharflaw19_RateOrder.j4
   repeat' first
   | (with_reducible exact ih0 _ _ _ _ _ _ _ _ _ _ _)
   | (with_reducible exact ih1 _ _ _ _ _ _ _ _ _ _ _ _)
   | (with_reducible exact ih2 _ _ _ _ _ _ _ _ _ _ _ _ _)
   | (with_reducible exact ih3 _ _ _ _ _ _ _ _ _ _ _ _ _)
   | (with_reducible exact ih4 _ _ _ _ _ _ _ _ _ _ _ _ _ _)
   | (with_reducible exact rate_Check.mono _ _ _ _ _ _ _ _ _)
   | (with_reducible exact rate_Pop.mono _ _ _ _ _ _ _ _ _ _ _)
   | (with_reducible exact rate_Push.mono _ _ _ _ _ _ _ _ _ _ _ _ _ _ _ _ _ _ _ _ _)
   | (with_reducible exact rate_Wait.mono _ _ _ _ _ _ _ _ _ _)
   | (with_reducible exact wharflaw19_line.mono _ _)
   | (with_reducible exact wharflaw19_live.mono _)
   | (with_reducible exact wharfref14_List.mono _ _ _)
   | (with_reducible exact LeO.refl _)
   | (with_reducible exact LeO.none _)
   | (with_reducible refine LeO.ite ?_ ?_)
   | (with_reducible refine LeO.bind ?_ (fun _ => ?_))
   | exact ih0 _ _ _ _ _ _ _ _ _ _ _
   | exact ih1 _ _ _ _ _ _ _ _ _ _ _ _
   | exact ih2 _ _ _ _ _ _ _ _ _ _ _ _ _
   | exact ih3 _ _ _ _ _ _ _ _ _ _ _ _ _
   | exact ih4 _ _ _ _ _ _ _ _ _ _ _ _ _ _
   | exact rate_Check.mono _ _ _ _ _ _ _ _ _
   | exact rate_Pop.mono _ _ _ _ _ _ _ _ _ _ _
   | exact rate_Push.mono _ _ _ _ _ _ _ _ _ _ _ _ _ _ _ _ _ _ _ _ _
   | exact rate_Wait.mono _ _ _ _ _ _ _ _ _ _
   | exact wharflaw19_line.mono _ _
   | exact wharflaw19_live.mono _
   | exact wharfref14_List.mono _ _ _
   | exact LeO.none _
   | refine LeO.ite ?_ ?_
   | refine LeO.bind ?_ (fun _ => ?_)
theorem wharflaw19_RateOrder.mono : ∀ a0 a1 a2 a3 a4 a5 a6 a7 a8 a9 k, LeO (wharflaw19_RateOrder.f k a0 a1 a2 a3 a4 a5 a6 a7 a8 a9) (wharflaw19_RateOrder.f (k + 1) a0 a1 a2 a3 a4 a5 a6 a7 a8 a9) := by
 intro a0 a1 a2 a3 a4 a5 a6 a7 a8 a9 k
 obtain ⟨ih0, ih1, ih2, ih3, ih4⟩ := wharflaw19_RateOrder.mono_l k
 unfold wharflaw19_RateOrder.f
 repeat' first
   | (with_reducible exact ih0 _ _ _ _ _ _ _ _ _ _ _)
   | (with_reducible exact ih1 _ _ _ _ _ _ _ _ _ _ _ _)
   | (with_reducible exact ih2 _ _ _ _ _ _ _ _ _ _ _ _ _)
   | (with_reducible exact ih3 _ _ _ _ _ _ _ _ _ _ _ _ _)
   | (with_reducible exact ih4 _ _ _ _ _ _ _ _ _ _ _ _ _ _)
   | (with_reducible exact rate_Check.mono _ _ _ _ _ _ _ _ _)
   | (with_reducible exact rate_Pop.mono _ _ _ _ _ _ _ _ _ _ _)
   | (with_reducible exact rate_Push.mono _ _ _ _ _ _ _ _ _ _ _ _ _ _ _ _ _ _ _ _ _)
   | (with_reducible exact rate_Wait.mono _ _ _ _ _ _ _ _ _ _)
   | (with_reducible exact wharflaw19_line.mono _ _)
   | (with_reducible exact wharflaw19_live.mono _)
   | (with_reducible exact wharfref14_List.mono _ _ _)
   | (with_reducible exact LeO.refl _)
   | (with_reducible exact LeO.none _)
   | (with_reducible refine LeO.ite ?_ ?_)
   | (with_reducible refine LeO.bind ?_ (fun _ => ?_))
   | exact ih0 _ _ _ _ _ _ _ _ _ _ _
   | exact ih1 _ _ _ _ _ _ _ _ _ _ _ _
   | exact ih2 _ _ _ _ _ _ _ _ _ _ _ _ _
   | exact ih3 _ _ _ _ _ _ _ _ _ _ _ _ _
   | exact ih4 _ _ _ _ _ _ _ _ _ _ _ _ _ _
   | exact rate_Check.mono _ _ _ _ _ _ _ _ _
   | exact rate_Pop.mono _ _ _ _ _ _ _ _ _ _ _
   | exact rate_Push.mono _ _ _ _ _ _ _ _ _ _ _ _ _ _ _ _ _ _ _ _ _
   | exact rate_Wait.mono _ _ _ _ _ _ _ _ _ _
   | exact wharflaw19_line.mono _ _
   | exact wharflaw19_live.mono _
   | exact wharfref14_List.mono _ _ _
   | exact LeO.none _
   | refine LeO.ite ?_ ?_
   | refine LeO.bind ?_ (fun _ => ?_)
def wharflaw19_RateOrder.T9 : Bool × List (List Nat × List Nat) := (true, [([], []), ([], []), ([], []), ([1, 2], [1, 2]), ([3], [3]), ([0, 4], [0, 4]), ([5], [5]), ([6], [6]), ([6], [6]), ([], []), ([9, 7, 5, 0, 1, 2, 3, 4, 5, 6, 7, 9], [7, 9]), ([8, 10, 0, 1, 2, 3, 4, 5, 6, 7, 8, 9, 10], [8])])
def wharflaw19_RateOrder.B9 : List Nat := [0, 0, 0, 6, 14, 31, 63, 127, 127, 0, 767, 2047]
theorem wharflaw19_RateOrder.tab9 : rtab .any (opsOf Try.f7 9) = wharflaw19_RateOrder.T9 := by kernel_rfl
theorem wharflaw19_RateOrder.bits9 : waitsOk wharflaw19_RateOrder.T9.2 wharflaw19_RateOrder.B9 = true := by kernel_rfl
set_option maxHeartbeats 8000000 in
set_option maxRecDepth 100000 in
theorem wharflaw19_RateOrder.callsT (k : Nat) (a0_0 : Int) (a0_1 : Int) (a0_2 : Int) (a0_3 : Int) (a0_4 : Int) (a0_5 : Int) (a0_6 : Int) (a0_7 : Int) (A1 : Option Addr) (c1 : Nat) (l1 : List (S41)) (a2 : Int) (r : Bool) (w : World) (hr1 : Kd.C k41 w A1 l1.length l1) (hc1 : l1.length ≤ c1) (HT_ : Aside0 (r = true)) (h : wharflaw19_RateOrder.f k a0_0 a0_1 a0_2 a0_3 a0_4 a0_5 a0_6 a0_7 l1 a2 = some r) :
  Calls Try.prog 7 #[.agg #[.int .i64 a0_0, .int .i64 a0_1, .int .i64 a0_2, .int .i64 a0_3, .int .i64 a0_4, .int .i64 a0_5, .int .i64 a0_6, .int .i64 a0_7], .slice A1 l1.length c1, .int .i64 a2] w fun e w' => e = .returned (.bool r) ∧ Below w.heap.size w w' := by
 have hu23 := Try.underlying23
 have hu36 := Try.underlying36
 have hu41 := Try.underlying41
 have HR1 := Aside0.mk hr1
 have HC1 := Aside0.mk hc1
 clear hr1 hc1
 have HB := Aside0.mk (Below.refl w.heap.size w)
 have H : ((rate_Check.f k a0_0 a0_1 a0_2 a0_3 a0_4 a0_5 a0_6 a0_7).bind fun t502 => ((wharflaw19_num.f t502).bind fun t503 => (if t503 = 0 then ((wharflaw19_line.f k l1).bind fun t504 => (if t504 = true then ((wharflaw19_time.f a2).bind fun t505 => (if t505 = true then (wharflaw19_RateOrder.j0 k l1 a2 (decide ((l1.length : Int) > 16)) a0_0 a0_1 a0_2 a0_3 a0_4 a0_5 a0_6 a0_7) else (wharflaw19_RateOrder.j0 k l1 a2 true a0_0 a0_1 a0_2 a0_3 a0_4 a0_5 a0_6 a0_7))) else (wharflaw19_RateOrder.j0 k l1 a2 true a0_0 a0_1 a0_2 a0_3 a0_4 a0_5 a0_6 a0_7))) else (wharflaw19_RateOrder.j0 k l1 a2 true a0_0 a0_1 a0_2 a0_3 a0_4 a0_5 a0_6 a0_7)))) = some r := h
 clear h
 have HC4 := Aside0.mk H
 clear H
 go_enter Try.func7, Try.ntmps7
 go_upto_region 1 with (first | ((with_reducible refine gate_dst (N := 3) rfl ?_); (try (refine gate_guard (by rfl) ?_; dsimp only)); refine box_event ?hg (N := 3) ?hd (cs := #[.int .i64 a0_0, .int .i64 a0_1, .int .i64 a0_2, .int .i64 a0_3, .int .i64 a0_4, .int .i64 a0_5, .int .i64 a0_6, .int .i64 a0_7]) (t := 23) ?hr ?_; (case hd => rfl); (case hg => rfl); (case hr => first | (go_simp; done) | (go_simp; rfl)); intro gb501 hg w5 hbox hb; have n0_ := Aside0.mk (below_step (by repeat (first | (with_reducible first | exact HB.out | apply below_alloc | apply pw_below_drewN | apply below_drew1) | exact HB.out)) hb); have n1_ := Aside0.mk (hbox); have n2_ := Aside0.mk ((by rw [hg]; exact (below_size (by repeat (first | (with_reducible first | exact HB.out | apply below_alloc | apply pw_below_drewN | apply below_drew1) | exact HB.out))) : w.heap.size ≤ gb501)); have n3_ := Aside0.mk ((by rw [hg]; exact (below_size (by repeat (first | (with_reducible first | exact HB.out | apply below_alloc | apply pw_below_drewN | apply below_drew1) | exact HB.out))) : w.heap.size ≤ gb501)); clear HB; have HB := n0_; have BK501 := n1_; have GW501 := n2_; have GE501 := n3_; clear n0_ n1_ n2_ n3_; clear hb hbox hg))
 (try simp only [Act.put, List.setIfInBounds_toArray, List.set_cons_zero, List.set_cons_succ])
 go_cut [34] (fun v34 wc => ∃ (kq : Nat) (x34_3 : Bool), v34 = .bool x34_3 ∧ Aside0 (wharflaw19_RateOrder.j0 kq l1 a2 x34_3 a0_0 a0_1 a0_2 a0_3 a0_4 a0_5 a0_6 a0_7 = some r) ∧ Aside0 (kq ≤ k) ∧ Aside0 (wc.heap[gb501]? = some (.cells #[.int .i64 a0_0, .int .i64 a0_1, .int .i64 a0_2, .int .i64 a0_3, .int .i64 a0_4, .int .i64 a0_5, .int .i64 a0_6, .int .i64 a0_7] 23 (0, 0))) ∧ Aside0 (Below w.heap.size w wc))
 case first =>
  have H := HC4.out
  clear HC4
  replace H := Option.bind_eq_some_iff.mp H
  obtain ⟨t502, A60, H⟩ := H
  replace H : ((wharflaw19_num.f t502).bind fun t503 => (if t503 = 0 then ((wharflaw19_line.f k l1).bind fun t504 => (if t504 = true then ((wharflaw19_time.f a2).bind fun t505 => (if t505 = true then (wharflaw19_RateOrder.j0 k l1 a2 (decide ((l1.length : Int) > 16)) a0_0 a0_1 a0_2 a0_3 a0_4 a0_5 a0_6 a0_7) else (wharflaw19_RateOrder.j0 k l1 a2 true a0_0 a0_1 a0_2 a0_3 a0_4 a0_5 a0_6 a0_7))) else (wharflaw19_RateOrder.j0 k l1 a2 true a0_0 a0_1 a0_2 a0_3 a0_4 a0_5 a0_6 a0_7))) else (wharflaw19_RateOrder.j0 k l1 a2 true a0_0 a0_1 a0_2 a0_3 a0_4 a0_5 a0_6 a0_7))) = some r := H
  have A6 := Aside0.mk A60
  clear A60
  replace H := Option.bind_eq_some_iff.mp H
  obtain ⟨t503, A70, H⟩ := H
  replace H : (if t503 = 0 then ((wharflaw19_line.f k l1).bind fun t504 => (if t504 = true then ((wharflaw19_time.f a2).bind fun t505 => (if t505 = true then (wharflaw19_RateOrder.j0 k l1 a2 (decide ((l1.length : Int) > 16)) a0_0 a0_1 a0_2 a0_3 a0_4 a0_5 a0_6 a0_7) else (wharflaw19_RateOrder.j0 k l1 a2 true a0_0 a0_1 a0_2 a0_3 a0_4 a0_5 a0_6 a0_7))) else (wharflaw19_RateOrder.j0 k l1 a2 true a0_0 a0_1 a0_2 a0_3 a0_4 a0_5 a0_6 a0_7))) else (wharflaw19_RateOrder.j0 k l1 a2 true a0_0 a0_1 a0_2 a0_3 a0_4 a0_5 a0_6 a0_7)) = some r := H
  have A7 := Aside0.mk A70
  clear A70
  by_cases c8 : t503 = 0
  ·
   rw [if_pos c8] at H
   have c8b0 : (t503 == 0) = true := beq_iff_eq.mpr c8
   have c8b1 : (t503 != 0) = false := bne_eq_false_iff_eq.mpr c8
   clear c8
   (first | rw [c8b0] | (simp only [i64_w, i32_w]; rw [c8b0]) | skip)
   replace H := Option.bind_eq_some_iff.mp H
   obtain ⟨t504, A90, H⟩ := H
   replace H : (if t504 = true then ((wharflaw19_time.f a2).bind fun t505 => (if t505 = true then (wharflaw19_RateOrder.j0 k l1 a2 (decide ((l1.length : Int) > 16)) a0_0 a0_1 a0_2 a0_3 a0_4 a0_5 a0_6 a0_7) else (wharflaw19_RateOrder.j0 k l1 a2 true a0_0 a0_1 a0_2 a0_3 a0_4 a0_5 a0_6 a0_7))) else (wharflaw19_RateOrder.j0 k l1 a2 true a0_0 a0_1 a0_2 a0_3 a0_4 a0_5 a0_6 a0_7)) = some r := H
   have A9 := Aside0.mk A90
   clear A90
   by_cases c10 : t504 = true
   ·
    subst c10
    have H1 : ((wharflaw19_time.f a2).bind fun t505 => (if t505 = true then (wharflaw19_RateOrder.j0 k l1 a2 (decide ((l1.length : Int) > 16)) a0_0 a0_1 a0_2 a0_3 a0_4 a0_5 a0_6 a0_7) else (wharflaw19_RateOrder.j0 k l1 a2 true a0_0 a0_1 a0_2 a0_3 a0_4 a0_5 a0_6 a0_7))) = some r := by rw [if_pos rfl] at H; exact H
    clear H
    have H := H1
    clear H1
    replace H := Option.bind_eq_some_iff.mp H
    obtain ⟨t505, A110, H⟩ := H
    replace H : (if t505 = true then (wharflaw19_RateOrder.j0 k l1 a2 (decide ((l1.length : Int) > 16)) a0_0 a0_1 a0_2 a0_3 a0_4 a0_5 a0_6 a0_7) else (wharflaw19_RateOrder.j0 k l1 a2 true a0_0 a0_1 a0_2 a0_3 a0_4 a0_5 a0_6 a0_7)) = some r := H
    have A11 := Aside0.mk A110
    clear A110
    by_cases c12 : t505 = true
    ·
     subst c12
     have H1 : (wharflaw19_RateOrder.j0 k l1 a2 (decide ((l1.length : Int) > 16)) a0_0 a0_1 a0_2 a0_3 a0_4 a0_5 a0_6 a0_7) = some r := by rw [if_pos rfl] at H; exact H
     clear H
     have H := H1
     clear H1
     have H' := Aside0.mk H
     clear H
     have hcz13_0 : w5.cell? ⟨gb501, 0, none⟩ = some (.int .i64 a0_0) := (blk_cell BK501.out 0).trans rfl
     have hcz13_1 : w5.cell? ⟨gb501, 1, none⟩ = some (.int .i64 a0_1) := (blk_cell BK501.out 1).trans rfl
     have hcz13_2 : w5.cell? ⟨gb501, 2, none⟩ = some (.int .i64 a0_2) := (blk_cell BK501.out 2).trans rfl
     have hcz13_3 : w5.cell? ⟨gb501, 3, none⟩ = some (.int .i64 a0_3) := (blk_cell BK501.out 3).trans rfl
     have hcz13_4 : w5.cell? ⟨gb501, 4, none⟩ = some (.int .i64 a0_4) := (blk_cell BK501.out 4).trans rfl
     have hcz13_5 : w5.cell? ⟨gb501, 5, none⟩ = some (.int .i64 a0_5) := (blk_cell BK501.out 5).trans rfl
     have hcz13_6 : w5.cell? ⟨gb501, 6, none⟩ = some (.int .i64 a0_6) := (blk_cell BK501.out 6).trans rfl
     have hcz13_7 : w5.cell? ⟨gb501, 7, none⟩ = some (.int .i64 a0_7) := (blk_cell BK501.out 7).trans rfl
     have hfz13_0 := blk_frozen BK501.out 0
     have hfz13_1 := blk_frozen BK501.out 1
     have hfz13_2 := blk_frozen BK501.out 2
     have hfz13_3 := blk_frozen BK501.out 3
     have hfz13_4 := blk_frozen BK501.out 4
     have hfz13_5 := blk_frozen BK501.out 5
     have hfz13_6 := blk_frozen BK501.out 6
     have hfz13_7 := blk_frozen BK501.out 7
     go_wp2_with (first | ((with_reducible refine gate_callee (f := 10) rfl ?_); refine goesL_ (some 17) rfl rfl Try.func10 (by kernel_rfl) rfl #[.agg #[.int .i64 a0_0, .int .i64 a0_1, .int .i64 a0_2, .int .i64 a0_3, .int .i64 a0_4, .int .i64 a0_5, .int .i64 a0_6, .int .i64 a0_7]] rfl (by (try simp only [List.map_toArray, List.map_cons, List.map_nil]); first | done | rfl | (simp only [List.length_drop, List.length_take]; rfl)) ?_; (with_reducible refine (rate_Check.calls k a0_0 a0_1 a0_2 a0_3 a0_4 a0_5 a0_6 a0_7 t502 _ A6.out).mono ?_); rintro e w14 ⟨rfl, hb⟩; refine ⟨_, rfl, ?_⟩; have n0_ := Aside0.mk (blk_below (g := gb501) (o := .cells #[.int .i64 a0_0, .int .i64 a0_1, .int .i64 a0_2, .int .i64 a0_3, .int .i64 a0_4, .int .i64 a0_5, .int .i64 a0_6, .int .i64 a0_7] 23 (0, 0)) (by (with_reducible repeat (first | refine blk_drewN ?_ _ | refine blk_drew ?_ | refine blk_alloc ?_ _)); exact BK501.out) hb); have n1_ := Aside0.mk (below_step (by repeat (first | (with_reducible first | exact HB.out | apply below_alloc | apply pw_below_drewN | apply below_drew1 | refine below_set ?_ GE501.out) | exact HB.out)) hb); clear BK501; clear HB; have BK501 := n0_; have HB := n1_; clear n0_ n1_; (try clear hb); (try clear hb2); (try clear hk); (try clear hi)) | ((with_reducible refine gate_callee (f := 9) rfl ?_); refine goesL_ (some 18) rfl rfl Try.func9 (by kernel_rfl) rfl #[.int .i64 t502] rfl (by (try simp only [List.map_toArray, List.map_cons, List.map_nil]); first | done | rfl | (simp only [List.length_drop, List.length_take]; rfl)) ?_; (with_reducible refine (wharflaw19_num.calls t502 t503 _ A7.out).mono ?_); rintro e w' ⟨rfl, ⟨nd, rfl⟩⟩; refine ⟨_, rfl, ?_⟩) | (go_at_call 28; (with_reducible refine (wharflaw19_line.calls k _ _ l1 true _ ?side1 ?side2 A9.out).mono ?_); (case side1 => repeat (first | exact (Kd.C_below HR1.out (by repeat (first | (with_reducible first | exact HB.out | apply below_alloc | apply pw_below_drewN | apply below_drew1 | refine below_set ?_ GE501.out) | exact HB.out))) | (with_reducible refine Kd.C_alloc ?_ _) | (with_reducible refine Kd.C_drewN ?_ _) | (with_reducible refine Kd.C_drew ?_))); (case side2 => exact HC1.out); rintro e w15 ⟨rfl, hb⟩; have n0_ := Aside0.mk (blk_below (g := gb501) (o := .cells #[.int .i64 a0_0, .int .i64 a0_1, .int .i64 a0_2, .int .i64 a0_3, .int .i64 a0_4, .int .i64 a0_5, .int .i64 a0_6, .int .i64 a0_7] 23 (0, 0)) (by (with_reducible repeat (first | refine blk_drewN ?_ _ | refine blk_drew ?_ | refine blk_alloc ?_ _)); exact BK501.out) hb); have n1_ := Aside0.mk (below_step (by repeat (first | (with_reducible first | exact HB.out | apply below_alloc | apply pw_below_drewN | apply below_drew1 | refine below_set ?_ GE501.out) | exact HB.out)) hb); clear BK501; clear HB; have BK501 := n0_; have HB := n1_; clear n0_ n1_; (try clear hb); (try clear hb2); (try clear hk); (try clear hi)) | (go_at_call 12; (with_reducible refine (wharflaw19_time.calls a2 true _ A11.out).mono ?_); rintro e w' ⟨rfl, ⟨nd, rfl⟩⟩))
     go_meet
     case rel => exact ⟨_, (decide ((l1.length : Int) > 16)), (by first | rfl | (simp; done) | (simp [*]; done)), H', ⟨by first | omega | exact Nat.le_refl _⟩, ⟨by (with_reducible repeat (first | refine blk_drewN ?_ _ | refine blk_drew ?_ | refine blk_alloc ?_ _)); exact BK501.out⟩, ⟨by repeat (first | (with_reducible first | exact HB.out | apply below_alloc | apply pw_below_drewN | apply below_drew1 | refine below_set ?_ GE501.out) | exact HB.out)⟩⟩
    ·
     replace c12 := Bool.eq_false_iff.mpr c12
     subst c12
     have H1 : (wharflaw19_RateOrder.j0 k l1 a2 true a0_0 a0_1 a0_2 a0_3 a0_4 a0_5 a0_6 a0_7) = some r := by rw [if_neg (show ¬ (false = true) by decide)] at H; exact H
     clear H
     have H := H1
     clear H1
     have H' := Aside0.mk H
     clear H
     have hcz16_0 : w5.cell? ⟨gb501, 0, none⟩ = some (.int .i64 a0_0) := (blk_cell BK501.out 0).trans rfl
     have hcz16_1 : w5.cell? ⟨gb501, 1, none⟩ = some (.int .i64 a0_1) := (blk_cell BK501.out 1).trans rfl
     have hcz16_2 : w5.cell? ⟨gb501, 2, none⟩ = some (.int .i64 a0_2) := (blk_cell BK501.out 2).trans rfl
     have hcz16_3 : w5.cell? ⟨gb501, 3, none⟩ = some (.int .i64 a0_3) := (blk_cell BK501.out 3).trans rfl
     have hcz16_4 : w5.cell? ⟨gb501, 4, none⟩ = some (.int .i64 a0_4) := (blk_cell BK501.out 4).trans rfl
     have hcz16_5 : w5.cell? ⟨gb501, 5, none⟩ = some (.int .i64 a0_5) := (blk_cell BK501.out 5).trans rfl
     have hcz16_6 : w5.cell? ⟨gb501, 6, none⟩ = some (.int .i64 a0_6) := (blk_cell BK501.out 6).trans rfl
     have hcz16_7 : w5.cell? ⟨gb501, 7, none⟩ = some (.int .i64 a0_7) := (blk_cell BK501.out 7).trans rfl
     have hfz16_0 := blk_frozen BK501.out 0
     have hfz16_1 := blk_frozen BK501.out 1
     have hfz16_2 := blk_frozen BK501.out 2
     have hfz16_3 := blk_frozen BK501.out 3
     have hfz16_4 := blk_frozen BK501.out 4
     have hfz16_5 := blk_frozen BK501.out 5
     have hfz16_6 := blk_frozen BK501.out 6
     have hfz16_7 := blk_frozen BK501.out 7
     go_wp2_with (first | ((with_reducible refine gate_callee (f := 10) rfl ?_); refine goesL_ (some 17) rfl rfl Try.func10 (by kernel_rfl) rfl #[.agg #[.int .i64 a0_0, .int .i64 a0_1, .int .i64 a0_2, .int .i64 a0_3, .int .i64 a0_4, .int .i64 a0_5, .int .i64 a0_6, .int .i64 a0_7]] rfl (by (try simp only [List.map_toArray, List.map_cons, List.map_nil]); first | done | rfl | (simp only [List.length_drop, List.length_take]; rfl)) ?_; (with_reducible refine (rate_Check.calls k a0_0 a0_1 a0_2 a0_3 a0_4 a0_5 a0_6 a0_7 t502 _ A6.out).mono ?_); rintro e w17 ⟨rfl, hb⟩; refine ⟨_, rfl, ?_⟩; have n0_ := Aside0.mk (blk_below (g := gb501) (o := .cells #[.int .i64 a0_0, .int .i64 a0_1, .int .i64 a0_2, .int .i64 a0_3, .int .i64 a0_4, .int .i64 a0_5, .int .i64 a0_6, .int .i64 a0_7] 23 (0, 0)) (by (with_reducible repeat (first | refine blk_drewN ?_ _ | refine blk_drew ?_ | refine blk_alloc ?_ _)); exact BK501.out) hb); have n1_ := Aside0.mk (below_step (by repeat (first | (with_reducible first | exact HB.out | apply below_alloc | apply pw_below_drewN | apply below_drew1 | refine below_set ?_ GE501.out) | exact HB.out)) hb); clear BK501; clear HB; have BK501 := n0_; have HB := n1_; clear n0_ n1_; (try clear hb); (try clear hb2); (try clear hk); (try clear hi)) | ((with_reducible refine gate_callee (f := 9) rfl ?_); refine goesL_ (some 18) rfl rfl Try.func9 (by kernel_rfl) rfl #[.int .i64 t502] rfl (by (try simp only [List.map_toArray, List.map_cons, List.map_nil]); first | done | rfl | (simp only [List.length_drop, List.length_take]; rfl)) ?_; (with_reducible refine (wharflaw19_num.calls t502 t503 _ A7.out).mono ?_); rintro e w' ⟨rfl, ⟨nd, rfl⟩⟩; refine ⟨_, rfl, ?_⟩) | (go_at_call 28; (with_reducible refine (wharflaw19_line.calls k _ _ l1 true _ ?side1 ?side2 A9.out).mono ?_); (case side1 => repeat (first | exact (Kd.C_below HR1.out (by repeat (first | (with_reducible first | exact HB.out | apply below_alloc | apply pw_below_drewN | apply below_drew1 | refine below_set ?_ GE501.out) | exact HB.out))) | (with_reducible refine Kd.C_alloc ?_ _) | (with_reducible refine Kd.C_drewN ?_ _) | (with_reducible refine Kd.C_drew ?_))); (case side2 => exact HC1.out); rintro e w18 ⟨rfl, hb⟩; have n0_ := Aside0.mk (blk_below (g := gb501) (o := .cells #[.int .i64 a0_0, .int .i64 a0_1, .int .i64 a0_2, .int .i64 a0_3, .int .i64 a0_4, .int .i64 a0_5, .int .i64 a0_6, .int .i64 a0_7] 23 (0, 0)) (by (with_reducible repeat (first | refine blk_drewN ?_ _ | refine blk_drew ?_ | refine blk_alloc ?_ _)); exact BK501.out) hb); have n1_ := Aside0.mk (below_step (by repeat (first | (with_reducible first | exact HB.out | apply below_alloc | apply pw_below_drewN | apply below_drew1 | refine below_set ?_ GE501.out) | exact HB.out)) hb); clear BK501; clear HB; have BK501 := n0_; have HB := n1_; clear n0_ n1_; (try clear hb); (try clear hb2); (try clear hk); (try clear hi)) | (go_at_call 12; (with_reducible refine (wharflaw19_time.calls a2 false _ A11.out).mono ?_); rintro e w' ⟨rfl, ⟨nd, rfl⟩⟩))
     go_meet
     case rel => exact ⟨_, (true), (by first | rfl | (simp; done) | (simp [*]; done)), H', ⟨by first | omega | exact Nat.le_refl _⟩, ⟨by (with_reducible repeat (first | refine blk_drewN ?_ _ | refine blk_drew ?_ | refine blk_alloc ?_ _)); exact BK501.out⟩, ⟨by repeat (first | (with_reducible first | exact HB.out | apply below_alloc | apply pw_below_drewN | apply below_drew1 | refine below_set ?_ GE501.out) | exact HB.out)⟩⟩
   ·
    replace c10 := Bool.eq_false_iff.mpr c10
    subst c10
    have H1 : (wharflaw19_RateOrder.j0 k l1 a2 true a0_0 a0_1 a0_2 a0_3 a0_4 a0_5 a0_6 a0_7) = some r := by rw [if_neg (show ¬ (false = true) by decide)] at H; exact H
    clear H
    have H := H1
    clear H1
    have H' := Aside0.mk H
    clear H
    have hcz19_0 : w5.cell? ⟨gb501, 0, none⟩ = some (.int .i64 a0_0) := (blk_cell BK501.out 0).trans rfl
    have hcz19_1 : w5.cell? ⟨gb501, 1, none⟩ = some (.int .i64 a0_1) := (blk_cell BK501.out 1).trans rfl
    have hcz19_2 : w5.cell? ⟨gb501, 2, none⟩ = some (.int .i64 a0_2) := (blk_cell BK501.out 2).trans rfl
    have hcz19_3 : w5.cell? ⟨gb501, 3, none⟩ = some (.int .i64 a0_3) := (blk_cell BK501.out 3).trans rfl
    have hcz19_4 : w5.cell? ⟨gb501, 4, none⟩ = some (.int .i64 a0_4) := (blk_cell BK501.out 4).trans rfl
    have hcz19_5 : w5.cell? ⟨gb501, 5, none⟩ = some (.int .i64 a0_5) := (blk_cell BK501.out 5).trans rfl
    have hcz19_6 : w5.cell? ⟨gb501, 6, none⟩ = some (.int .i64 a0_6) := (blk_cell BK501.out 6).trans rfl
    have hcz19_7 : w5.cell? ⟨gb501, 7, none⟩ = some (.int .i64 a0_7) := (blk_cell BK501.out 7).trans rfl
    have hfz19_0 := blk_frozen BK501.out 0
    have hfz19_1 := blk_frozen BK501.out 1
    have hfz19_2 := blk_frozen BK501.out 2
    have hfz19_3 := blk_frozen BK501.out 3
    have hfz19_4 := blk_frozen BK501.out 4
    have hfz19_5 := blk_frozen BK501.out 5
    have hfz19_6 := blk_frozen BK501.out 6
    have hfz19_7 := blk_frozen BK501.out 7
    go_wp2_with (first | ((with_reducible refine gate_callee (f := 10) rfl ?_); refine goesL_ (some 17) rfl rfl Try.func10 (by kernel_rfl) rfl #[.agg #[.int .i64 a0_0, .int .i64 a0_1, .int .i64 a0_2, .int .i64 a0_3, .int .i64 a0_4, .int .i64 a0_5, .int .i64 a0_6, .int .i64 a0_7]] rfl (by (try simp only [List.map_toArray, List.map_cons, List.map_nil]); first | done | rfl | (simp only [List.length_drop, List.length_take]; rfl)) ?_; (with_reducible refine (rate_Check.calls k a0_0 a0_1 a0_2 a0_3 a0_4 a0_5 a0_6 a0_7 t502 _ A6.out).mono ?_); rintro e w20 ⟨rfl, hb⟩; refine ⟨_, rfl, ?_⟩; have n0_ := Aside0.mk (blk_below (g := gb501) (o := .cells #[.int .i64 a0_0, .int .i64 a0_1, .int .i64 a0_2, .int .i64 a0_3, .int .i64 a0_4, .int .i64 a0_5, .int .i64 a0_6, .int .i64 a0_7] 23 (0, 0)) (by (with_reducible repeat (first | refine blk_drewN ?_ _ | refine blk_drew ?_ | refine blk_alloc ?_ _)); exact BK501.out) hb); have n1_ := Aside0.mk (below_step (by repeat (first | (with_reducible first | exact HB.out | apply below_alloc | apply pw_below_drewN | apply below_drew1 | refine below_set ?_ GE501.out) | exact HB.out)) hb); clear BK501; clear HB; have BK501 := n0_; have HB := n1_; clear n0_ n1_; (try clear hb); (try clear hb2); (try clear hk); (try clear hi)) | ((with_reducible refine gate_callee (f := 9) rfl ?_); refine goesL_ (some 18) rfl rfl Try.func9 (by kernel_rfl) rfl #[.int .i64 t502] rfl (by (try simp only [List.map_toArray, List.map_cons, List.map_nil]); first | done | rfl | (simp only [List.length_drop, List.length_take]; rfl)) ?_; (with_reducible refine (wharflaw19_num.calls t502 t503 _ A7.out).mono ?_); rintro e w' ⟨rfl, ⟨nd, rfl⟩⟩; refine ⟨_, rfl, ?_⟩) | (go_at_call 28; (with_reducible refine (wharflaw19_line.calls k _ _ l1 false _ ?side1 ?side2 A9.out).mono ?_); (case side1 => repeat (first | exact (Kd.C_below HR1.out (by repeat (first | (with_reducible first | exact HB.out | apply below_alloc | apply pw_below_drewN | apply below_drew1 | refine below_set ?_ GE501.out) | exact HB.out))) | (with_reducible refine Kd.C_alloc ?_ _) | (with_reducible refine Kd.C_drewN ?_ _) | (with_reducible refine Kd.C_drew ?_))); (case side2 => exact HC1.out); rintro e w21 ⟨rfl, hb⟩; have n0_ := Aside0.mk (blk_below (g := gb501) (o := .cells #[.int .i64 a0_0, .int .i64 a0_1, .int .i64 a0_2, .int .i64 a0_3, .int .i64 a0_4, .int .i64 a0_5, .int .i64 a0_6, .int .i64 a0_7] 23 (0, 0)) (by (with_reducible repeat (first | refine blk_drewN ?_ _ | refine blk_drew ?_ | refine blk_alloc ?_ _)); exact BK501.out) hb); have n1_ := Aside0.mk (below_step (by repeat (first | (with_reducible first | exact HB.out | apply below_alloc | apply pw_below_drewN | apply below_drew1 | refine below_set ?_ GE501.out) | exact HB.out)) hb); clear BK501; clear HB; have BK501 := n0_; have HB := n1_; clear n0_ n1_; (try clear hb); (try clear hb2); (try clear hk); (try clear hi)))
    go_meet
    case rel => exact ⟨_, (true), (by first | rfl | (simp; done) | (simp [*]; done)), H', ⟨by first | omega | exact Nat.le_refl _⟩, ⟨by (with_reducible repeat (first | refine blk_drewN ?_ _ | refine blk_drew ?_ | refine blk_alloc ?_ _)); exact BK501.out⟩, ⟨by repeat (first | (with_reducible first | exact HB.out | apply below_alloc | apply pw_below_drewN | apply below_drew1 | refine below_set ?_ GE501.out) | exact HB.out)⟩⟩
  ·
   rw [if_neg c8] at H
   have c8b0 : (t503 == 0) = false := beq_eq_false_iff_ne.mpr c8
   have c8b1 : (t503 != 0) = true := bne_iff_ne.mpr c8
   (first | rw [c8b0] | (simp only [i64_w, i32_w]; rw [c8b0]) | skip)
   have H' := Aside0.mk H
   clear H
   have hcz22_0 : w5.cell? ⟨gb501, 0, none⟩ = some (.int .i64 a0_0) := (blk_cell BK501.out 0).trans rfl
   have hcz22_1 : w5.cell? ⟨gb501, 1, none⟩ = some (.int .i64 a0_1) := (blk_cell BK501.out 1).trans rfl
   have hcz22_2 : w5.cell? ⟨gb501, 2, none⟩ = some (.int .i64 a0_2) := (blk_cell BK501.out 2).trans rfl
   have hcz22_3 : w5.cell? ⟨gb501, 3, none⟩ = some (.int .i64 a0_3) := (blk_cell BK501.out 3).trans rfl
   have hcz22_4 : w5.cell? ⟨gb501, 4, none⟩ = some (.int .i64 a0_4) := (blk_cell BK501.out 4).trans rfl
   have hcz22_5 : w5.cell? ⟨gb501, 5, none⟩ = some (.int .i64 a0_5) := (blk_cell BK501.out 5).trans rfl
   have hcz22_6 : w5.cell? ⟨gb501, 6, none⟩ = some (.int .i64 a0_6) := (blk_cell BK501.out 6).trans rfl
   have hcz22_7 : w5.cell? ⟨gb501, 7, none⟩ = some (.int .i64 a0_7) := (blk_cell BK501.out 7).trans rfl
   have hfz22_0 := blk_frozen BK501.out 0
   have hfz22_1 := blk_frozen BK501.out 1
   have hfz22_2 := blk_frozen BK501.out 2
   have hfz22_3 := blk_frozen BK501.out 3
   have hfz22_4 := blk_frozen BK501.out 4
   have hfz22_5 := blk_frozen BK501.out 5
   have hfz22_6 := blk_frozen BK501.out 6
   have hfz22_7 := blk_frozen BK501.out 7
   go_wp2_with (first | ((with_reducible refine gate_callee (f := 10) rfl ?_); refine goesL_ (some 17) rfl rfl Try.func10 (by kernel_rfl) rfl #[.agg #[.int .i64 a0_0, .int .i64 a0_1, .int .i64 a0_2, .int .i64 a0_3, .int .i64 a0_4, .int .i64 a0_5, .int .i64 a0_6, .int .i64 a0_7]] rfl (by (try simp only [List.map_toArray, List.map_cons, List.map_nil]); first | done | rfl | (simp only [List.length_drop, List.length_take]; rfl)) ?_; (with_reducible refine (rate_Check.calls k a0_0 a0_1 a0_2 a0_3 a0_4 a0_5 a0_6 a0_7 t502 _ A6.out).mono ?_); rintro e w23 ⟨rfl, hb⟩; refine ⟨_, rfl, ?_⟩; have n0_ := Aside0.mk (blk_below (g := gb501) (o := .cells #[.int .i64 a0_0, .int .i64 a0_1, .int .i64 a0_2, .int .i64 a0_3, .int .i64 a0_4, .int .i64 a0_5, .int .i64 a0_6, .int .i64 a0_7] 23 (0, 0)) (by (with_reducible repeat (first | refine blk_drewN ?_ _ | refine blk_drew ?_ | refine blk_alloc ?_ _)); exact BK501.out) hb); have n1_ := Aside0.mk (below_step (by repeat (first | (with_reducible first | exact HB.out | apply below_alloc | apply pw_below_drewN | apply below_drew1 | refine below_set ?_ GE501.out) | exact HB.out)) hb); clear BK501; clear HB; have BK501 := n0_; have HB := n1_; clear n0_ n1_; (try clear hb); (try clear hb2); (try clear hk); (try clear hi)) | ((with_reducible refine gate_callee (f := 9) rfl ?_); refine goesL_ (some 18) rfl rfl Try.func9 (by kernel_rfl) rfl #[.int .i64 t502] rfl (by (try simp only [List.map_toArray, List.map_cons, List.map_nil]); first | done | rfl | (simp only [List.length_drop, List.length_take]; rfl)) ?_; (with_reducible refine (wharflaw19_num.calls t502 t503 _ A7.out).mono ?_); rintro e w' ⟨rfl, ⟨nd, rfl⟩⟩; refine ⟨_, rfl, ?_⟩))
   go_meet
   case rel => exact ⟨_, (true), (by first | rfl | (simp; done) | (simp [*]; done)), H', ⟨by first | omega | exact Nat.le_refl _⟩, ⟨by (with_reducible repeat (first | refine blk_drewN ?_ _ | refine blk_drew ?_ | refine blk_alloc ?_ _)); exact BK501.out⟩, ⟨by repeat (first | (with_reducible first | exact HB.out | apply below_alloc | apply pw_below_drewN | apply below_drew1 | refine below_set ?_ GE501.out) | exact HB.out)⟩⟩
 case rest =>
  clear HC4
  try clear c1
  try clear p2
  try clear c7
  try clear c8
  try clear c8b0
  try clear c8b1
  try clear c9
  try clear c10
  try clear c12
  try clear hcz13_0
  try clear hcz13_1
  try clear hcz13_2
  try clear hcz13_3
  try clear hcz13_4
  try clear hcz13_5
  try clear hcz13_6
  try clear hcz13_7
  try clear hcz16_0
  try clear hcz16_1
  try clear hcz16_2
  try clear hcz16_3
  try clear hcz16_4
  try clear hcz16_5
  try clear hcz16_6
  try clear hcz16_7
  try clear hcz19_0
  try clear hcz19_1
  try clear hcz19_2
  try clear hcz19_3
  try clear hcz19_4
  try clear hcz19_5
  try clear hcz19_6
  try clear hcz19_7
  try clear hcz22_0
  try clear hcz22_1
  try clear hcz22_2
  try clear hcz22_3
  try clear hcz22_4
  try clear hcz22_5
  try clear hcz22_6
  try clear hcz22_7
  try clear hfz13_0
  try clear hfz13_1
  try clear hfz13_2
  try clear hfz13_3
  try clear hfz13_4
  try clear hfz13_5
  try clear hfz13_6
  try clear hfz13_7
  try clear hfz16_0
  try clear hfz16_1
  try clear hfz16_2
  try clear hfz16_3
  try clear hfz16_4
  try clear hfz16_5
  try clear hfz16_6
  try clear hfz16_7
  try clear hfz19_0
  try clear hfz19_1
  try clear hfz19_2
  try clear hfz19_3
  try clear hfz19_4
  try clear hfz19_5
  try clear hfz19_6
  try clear hfz19_7
  try clear hfz22_0
  try clear hfz22_1
  try clear hfz22_2
  try clear hfz22_3
  try clear hfz22_4
  try clear hfz22_5
  try clear hfz22_6
  try clear hfz22_7
  obtain ⟨kq, x34_3, rfl, HA, HJ3, BK501, HB⟩ := hcut
  cases kq with
  | zero => exact absurd HA.out (by simp [wharflaw19_RateOrder.j0])
  | succ kj3 =>
   have H := HA.out
   clear HA
   simp only [wharflaw19_RateOrder.j0] at H
   by_cases c24 : x34_3 = true
   ·
    subst c24
    have H1 : ((wharflaw19_live.f kj3).bind fun t506 => (some t506)) = some r := by rw [if_pos rfl] at H; exact H
    clear H
    have H := H1
    clear H1
    replace H := Option.bind_eq_some_iff.mp H
    obtain ⟨t506, A250, H⟩ := H
    replace H : (some t506) = some r := H
    have A25 := Aside0.mk A250
    clear A250
    obtain rfl := Option.some.inj H
    go_wp2_with (first | ((with_reducible refine gate_callee (f := 13) rfl ?_); refine goesL_ (some 35) rfl rfl Try.func13 (by kernel_rfl) rfl #[] rfl (by (try simp only [List.map_toArray, List.map_cons, List.map_nil]); first | done | rfl | (simp only [List.length_drop, List.length_take]; rfl)) ?_; (with_reducible refine (wharflaw19_live.calls kj3  t506 _ A25.out).mono ?_); rintro e w26 ⟨rfl, hb⟩; refine ⟨_, rfl, ?_⟩; have n0_ := Aside0.mk (blk_below (g := gb501) (o := .cells #[.int .i64 a0_0, .int .i64 a0_1, .int .i64 a0_2, .int .i64 a0_3, .int .i64 a0_4, .int .i64 a0_5, .int .i64 a0_6, .int .i64 a0_7] 23 (0, 0)) (by (with_reducible repeat (first | refine blk_drewN ?_ _ | refine blk_drew ?_ | refine blk_alloc ?_ _)); exact BK501.out) hb); have n1_ := Aside0.mk (below_step (by repeat (first | (with_reducible first | exact HB.out | apply below_alloc | apply pw_below_drewN | apply below_drew1 | refine below_set ?_ GE501.out) | exact HB.out)) hb); clear BK501; clear HB; have BK501 := n0_; have HB := n1_; clear n0_ n1_; (try clear hb); (try clear hb2); (try clear hk); (try clear hi)))
    go_ret
    exact ⟨by first | rfl | (simp [errW_none, errW_some] <;> rfl) | (simp [*, errW_none, errW_some] <;> rfl), by repeat (first | (with_reducible first | exact HB.out | apply below_alloc | apply pw_below_drewN | apply below_drew1 | refine below_set ?_ GE501.out) | exact HB.out)⟩
   ·
    replace c24 := Bool.eq_false_iff.mpr c24
    subst c24
    have H1 : (wharflaw19_RateOrder.l0 kj3 l1 a2 0 a0_0 a0_1 a0_2 a0_3 a0_4 a0_5 a0_6 a0_7 ([] : List (S41))) = some r := by rw [if_neg (show ¬ (false = true) by decide)] at H; exact H
    clear H
    have H := H1
    clear H1
    have H' := Aside0.mk H
    clear H
    have hcz27_0 : wc.cell? ⟨gb501, 0, none⟩ = some (.int .i64 a0_0) := (blk_cell BK501.out 0).trans rfl
    have hcz27_1 : wc.cell? ⟨gb501, 1, none⟩ = some (.int .i64 a0_1) := (blk_cell BK501.out 1).trans rfl
    have hcz27_2 : wc.cell? ⟨gb501, 2, none⟩ = some (.int .i64 a0_2) := (blk_cell BK501.out 2).trans rfl
    have hcz27_3 : wc.cell? ⟨gb501, 3, none⟩ = some (.int .i64 a0_3) := (blk_cell BK501.out 3).trans rfl
    have hcz27_4 : wc.cell? ⟨gb501, 4, none⟩ = some (.int .i64 a0_4) := (blk_cell BK501.out 4).trans rfl
    have hcz27_5 : wc.cell? ⟨gb501, 5, none⟩ = some (.int .i64 a0_5) := (blk_cell BK501.out 5).trans rfl
    have hcz27_6 : wc.cell? ⟨gb501, 6, none⟩ = some (.int .i64 a0_6) := (blk_cell BK501.out 6).trans rfl
    have hcz27_7 : wc.cell? ⟨gb501, 7, none⟩ = some (.int .i64 a0_7) := (blk_cell BK501.out 7).trans rfl
    have hfz27_0 := blk_frozen BK501.out 0
    have hfz27_1 := blk_frozen BK501.out 1
    have hfz27_2 := blk_frozen BK501.out 2
    have hfz27_3 := blk_frozen BK501.out 3
    have hfz27_4 := blk_frozen BK501.out 4
    have hfz27_5 := blk_frozen BK501.out 5
    have hfz27_6 := blk_frozen BK501.out 6
    have hfz27_7 := blk_frozen BK501.out 7
    go_wp2_with (first | ((with_reducible refine gate_dst (N := 7) rfl ?_); (try (refine gate_guard (by rfl) ?_; dsimp only)); refine box_event ?hg (N := 7) ?hd (cs := #[.int .i64 0, .int .i64 0, .int .i64 0, .int .i64 0, .int .i64 0, .int .i64 0, .int .i64 0, .int .i64 0, .slice none 0 0]) (t := 36) ?hr ?_; (case hd => rfl); (case hg => rfl); (case hr => first | (go_simp; done) | (go_simp; rfl)); intro gb507 hg w28 hbox hb; have n0_ := Aside0.mk (blk_below (g := gb501) (o := .cells #[.int .i64 a0_0, .int .i64 a0_1, .int .i64 a0_2, .int .i64 a0_3, .int .i64 a0_4, .int .i64 a0_5, .int .i64 a0_6, .int .i64 a0_7] 23 (0, 0)) (by (with_reducible repeat (first | refine blk_drewN ?_ _ | refine blk_drew ?_ | refine blk_alloc ?_ _)); exact BK501.out) hb); have n1_ := Aside0.mk (below_step (by repeat (first | (with_reducible first | exact HB.out | apply below_alloc | apply pw_below_drewN | apply below_drew1 | refine below_set ?_ GE501.out) | exact HB.out)) hb); have n2_ := Aside0.mk (hbox); have n3_ := Aside0.mk ((by rw [hg]; exact (below_size (by repeat (first | (with_reducible first | exact HB.out | apply below_alloc | apply pw_below_drewN | apply below_drew1 | refine below_set ?_ GE501.out) | exact HB.out))) : w.heap.size ≤ gb507)); have n4_ := Aside0.mk ((by rw [hg]; exact (below_size (by repeat (first | (with_reducible first | exact HB.out | apply below_alloc | apply pw_below_drewN | apply below_drew1 | refine below_set ?_ GE501.out) | exact HB.out))) : w.heap.size ≤ gb507)); have n5_ := Aside0.mk ((by rw [hg]; exact Nat.ne_of_lt (blk_lt (g := gb501) (o := .cells #[.int .i64 a0_0, .int .i64 a0_1, .int .i64 a0_2, .int .i64 a0_3, .int .i64 a0_4, .int .i64 a0_5, .int .i64 a0_6, .int .i64 a0_7] 23 (0, 0)) (by (with_reducible repeat (first | refine blk_drewN ?_ _ | refine blk_drew ?_ | refine blk_alloc ?_ _)); exact BK501.out)) : gb501 ≠ gb507)); have n6_ := Aside0.mk ((by rw [hg]; exact Nat.ne_of_gt (blk_lt (g := gb501) (o := .cells #[.int .i64 a0_0, .int .i64 a0_1, .int .i64 a0_2, .int .i64 a0_3, .int .i64 a0_4, .int .i64 a0_5, .int .i64 a0_6, .int .i64 a0_7] 23 (0, 0)) (by (with_reducible repeat (first | refine blk_drewN ?_ _ | refine blk_drew ?_ | refine blk_alloc ?_ _)); exact BK501.out)) : gb507 ≠ gb501)); clear BK501; clear HB; have BK501 := n0_; have HB := n1_; have BK507 := n2_; have GW507 := n3_; have GE507 := n4_; have NB501_507 := n5_; have NB507_501 := n6_; clear n0_ n1_ n2_ n3_ n4_ n5_ n6_; clear hb hbox hg; have hnb29 := NB507_501.out; have hnc29 := NB501_507.out; have hcz30_0 : w28.cell? ⟨gb507, 0, none⟩ = some (.int .i64 0) := (blk_cell BK507.out 0).trans rfl; have hcz30_1 : w28.cell? ⟨gb507, 1, none⟩ = some (.int .i64 0) := (blk_cell BK507.out 1).trans rfl; have hcz30_2 : w28.cell? ⟨gb507, 2, none⟩ = some (.int .i64 0) := (blk_cell BK507.out 2).trans rfl; have hcz30_3 : w28.cell? ⟨gb507, 3, none⟩ = some (.int .i64 0) := (blk_cell BK507.out 3).trans rfl; have hcz30_4 : w28.cell? ⟨gb507, 4, none⟩ = some (.int .i64 0) := (blk_cell BK507.out 4).trans rfl; have hcz30_5 : w28.cell? ⟨gb507, 5, none⟩ = some (.int .i64 0) := (blk_cell BK507.out 5).trans rfl; have hcz30_6 : w28.cell? ⟨gb507, 6, none⟩ = some (.int .i64 0) := (blk_cell BK507.out 6).trans rfl; have hcz30_7 : w28.cell? ⟨gb507, 7, none⟩ = some (.int .i64 0) := (blk_cell BK507.out 7).trans rfl; have hcz30_8 : w28.cell? ⟨gb507, 8, none⟩ = some (.slice none 0 0) := (blk_cell BK507.out 8).trans rfl; have hfz30_0 := blk_frozen BK507.out 0; have hfz30_1 := blk_frozen BK507.out 1; have hfz30_2 := blk_frozen BK507.out 2; have hfz30_3 := blk_frozen BK507.out 3; have hfz30_4 := blk_frozen BK507.out 4; have hfz30_5 := blk_frozen BK507.out 5; have hfz30_6 := blk_frozen BK507.out 6; have hfz30_7 := blk_frozen BK507.out 7; have hfz30_8 := blk_frozen BK507.out 8))
    go_loopg [8] kj3 (fun kq v8 w' => ∃ (x8_2 : Int) (x508000_2 : Int) (x508001_2 : Int) (x508002_2 : Int) (x508003_2 : Int) (x508004_2 : Int) (x508005_2 : Int) (x508006_2 : Int) (x508007_2 : Int) (x508008_2 : List (S41)) (u508008 : Value), v8 = .int .i64 x8_2 ∧ Aside0 (wharflaw19_RateOrder.l0 kq l1 a2 x8_2 x508000_2 x508001_2 x508002_2 x508003_2 x508004_2 x508005_2 x508006_2 x508007_2 x508008_2 = some r) ∧ Aside0 (kq ≤ kj3) ∧ Aside0 (Kd.V k41 41 w' w.heap.size (fun k_ => k_ ≠ gb501 ∧ k_ ≠ gb507) u508008 x508008_2) ∧ Aside0 (w'.heap[gb501]? = some (.cells #[.int .i64 a0_0, .int .i64 a0_1, .int .i64 a0_2, .int .i64 a0_3, .int .i64 a0_4, .int .i64 a0_5, .int .i64 a0_6, .int .i64 a0_7] 23 (0, 0))) ∧ Aside0 (w'.heap[gb507]? = some (.cells #[.int .i64 x508000_2, .int .i64 x508001_2, .int .i64 x508002_2, .int .i64 x508003_2, .int .i64 x508004_2, .int .i64 x508005_2, .int .i64 x508006_2, .int .i64 x508007_2, u508008] 36 (0, 0))) ∧ Aside0 (Below w.heap.size w w'))
    case atStart => exact ⟨(0), (a0_0), (a0_1), (a0_2), (a0_3), (a0_4), (a0_5), (a0_6), (a0_7), (([] : List (S41))), (.slice none 0 0), (by first | rfl | (simp; done) | (simp [*]; done)), H', ⟨Nat.le_refl _⟩, ⟨Kd.V_nil _ _ _ _ _⟩, ⟨by (with_reducible repeat (first | refine blk_drewN ?_ _ | refine blk_drew ?_ | refine blk_alloc ?_ _)); (iterate 9 (refine blk_far ?_ NB501_507.out _; (with_reducible repeat (first | refine blk_drewN ?_ _ | refine blk_drew ?_ | refine blk_alloc ?_ _)))); exact BK501.out⟩, ⟨by (with_reducible repeat (first | refine blk_drewN ?_ _ | refine blk_drew ?_ | refine blk_alloc ?_ _)); refine blk_put (cs := #[.int .i64 a0_0, .int .i64 a0_1, .int .i64 a0_2, .int .i64 a0_3, .int .i64 a0_4, .int .i64 a0_5, .int .i64 a0_6, .int .i64 a0_7, .slice none 0 0]) ?_ 8 _ rfl; (with_reducible repeat (first | refine blk_drewN ?_ _ | refine blk_drew ?_ | refine blk_alloc ?_ _)); refine blk_put (cs := #[.int .i64 a0_0, .int .i64 a0_1, .int .i64 a0_2, .int .i64 a0_3, .int .i64 a0_4, .int .i64 a0_5, .int .i64 a0_6, .int .i64 0, .slice none 0 0]) ?_ 7 _ rfl; (with_reducible repeat (first | refine blk_drewN ?_ _ | refine blk_drew ?_ | refine blk_alloc ?_ _)); refine blk_put (cs := #[.int .i64 a0_0, .int .i64 a0_1, .int .i64 a0_2, .int .i64 a0_3, .int .i64 a0_4, .int .i64 a0_5, .int .i64 0, .int .i64 0, .slice none 0 0]) ?_ 6 _ rfl; (with_reducible repeat (first | refine blk_drewN ?_ _ | refine blk_drew ?_ | refine blk_alloc ?_ _)); refine blk_put (cs := #[.int .i64 a0_0, .int .i64 a0_1, .int .i64 a0_2, .int .i64 a0_3, .int .i64 a0_4, .int .i64 0, .int .i64 0, .int .i64 0, .slice none 0 0]) ?_ 5 _ rfl; (with_reducible repeat (first | refine blk_drewN ?_ _ | refine blk_drew ?_ | refine blk_alloc ?_ _)); refine blk_put (cs := #[.int .i64 a0_0, .int .i64 a0_1, .int .i64 a0_2, .int .i64 a0_3, .int .i64 0, .int .i64 0, .int .i64 0, .int .i64 0, .slice none 0 0]) ?_ 4 _ rfl; (with_reducible repeat (first | refine blk_drewN ?_ _ | refine blk_drew ?_ | refine blk_alloc ?_ _)); refine blk_put (cs := #[.int .i64 a0_0, .int .i64 a0_1, .int .i64 a0_2, .int .i64 0, .int .i64 0, .int .i64 0, .int .i64 0, .int .i64 0, .slice none 0 0]) ?_ 3 _ rfl; (with_reducible repeat (first | refine blk_drewN ?_ _ | refine blk_drew ?_ | refine blk_alloc ?_ _)); refine blk_put (cs := #[.int .i64 a0_0, .int .i64 a0_1, .int .i64 0, .int .i64 0, .int .i64 0, .int .i64 0, .int .i64 0, .int .i64 0, .slice none 0 0]) ?_ 2 _ rfl; (with_reducible repeat (first | refine blk_drewN ?_ _ | refine blk_drew ?_ | refine blk_alloc ?_ _)); refine blk_put (cs := #[.int .i64 a0_0, .int .i64 0, .int .i64 0, .int .i64 0, .int .i64 0, .int .i64 0, .int .i64 0, .int .i64 0, .slice none 0 0]) ?_ 1 _ rfl; (with_reducible repeat (first | refine blk_drewN ?_ _ | refine blk_drew ?_ | refine blk_alloc ?_ _)); refine blk_put (cs := #[.int .i64 0, .int .i64 0, .int .i64 0, .int .i64 0, .int .i64 0, .int .i64 0, .int .i64 0, .int .i64 0, .slice none 0 0]) ?_ 0 _ rfl; (with_reducible repeat (first | refine blk_drewN ?_ _ | refine blk_drew ?_ | refine blk_alloc ?_ _)); exact BK507.out⟩, ⟨by repeat (first | (with_reducible first | exact HB.out | apply below_alloc | apply pw_below_drewN | apply below_drew1 | refine below_set ?_ GE501.out | refine below_set ?_ GE507.out) | exact HB.out)⟩⟩
    case round =>
     clear H'
     try clear c1
     try clear c2
     try clear p2
     try clear c7
     try clear c8
     try clear c8b0
     try clear c8b1
     try clear c9
     try clear c10
     try clear c12
     try clear c13
     try clear c24
     try clear c29
     try clear hcz13_0
     try clear hcz13_1
     try clear hcz13_2
     try clear hcz13_3
     try clear hcz13_4
     try clear hcz13_5
     try clear hcz13_6
     try clear hcz13_7
     try clear hcz16_0
     try clear hcz16_1
     try clear hcz16_2
     try clear hcz16_3
     try clear hcz16_4
     try clear hcz16_5
     try clear hcz16_6
     try clear hcz16_7
     try clear hcz19_0
     try clear hcz19_1
     try clear hcz19_2
     try clear hcz19_3
     try clear hcz19_4
     try clear hcz19_5
     try clear hcz19_6
     try clear hcz19_7
     try clear hcz22_0
     try clear hcz22_1
     try clear hcz22_2
     try clear hcz22_3
     try clear hcz22_4
     try clear hcz22_5
     try clear hcz22_6
     try clear hcz22_7
     try clear hcz27_0
     try clear hcz27_1
     try clear hcz27_2
     try clear hcz27_3
     try clear hcz27_4
     try clear hcz27_5
     try clear hcz27_6
     try clear hcz27_7
     try clear hcz30_0
     try clear hcz30_1
     try clear hcz30_2
     try clear hcz30_3
     try clear hcz30_4
     try clear hcz30_5
     try clear hcz30_6
     try clear hcz30_7
     try clear hcz30_8
     try clear hfz13_0
     try clear hfz13_1
     try clear hfz13_2
     try clear hfz13_3
     try clear hfz13_4
     try clear hfz13_5
     try clear hfz13_6
     try clear hfz13_7
     try clear hfz16_0
     try clear hfz16_1
     try clear hfz16_2
     try clear hfz16_3
     try clear hfz16_4
     try clear hfz16_5
     try clear hfz16_6
     try clear hfz16_7
     try clear hfz19_0
     try clear hfz19_1
     try clear hfz19_2
     try clear hfz19_3
     try clear hfz19_4
     try clear hfz19_5
     try clear hfz19_6
     try clear hfz19_7
     try clear hfz22_0
     try clear hfz22_1
     try clear hfz22_2
     try clear hfz22_3
     try clear hfz22_4
     try clear hfz22_5
     try clear hfz22_6
     try clear hfz22_7
     try clear hfz27_0
     try clear hfz27_1
     try clear hfz27_2
     try clear hfz27_3
     try clear hfz27_4
     try clear hfz27_5
     try clear hfz27_6
     try clear hfz27_7
     try clear hfz30_0
     try clear hfz30_1
     try clear hfz30_2
     try clear hfz30_3
     try clear hfz30_4
     try clear hfz30_5
     try clear hfz30_6
     try clear hfz30_7
     try clear hfz30_8
     try clear p2
     obtain ⟨x8_2, x508000_2, x508001_2, x508002_2, x508003_2, x508004_2, x508005_2, x508006_2, x508007_2, x508008_2, u508008, rfl, HA, HK2, HO_508008, BK501, BK507, HB⟩ := hrel
     cases gk with
     | zero => exact absurd HA.out (by simp [wharflaw19_RateOrder.l0])
     | succ k2 =>
      have H := HA.out
      clear HA
      simp only [wharflaw19_RateOrder.l0] at H
      by_cases c31 : x8_2 < (l1.length : Int)
      ·
       rw [if_pos c31] at H
       have c31b0 : decide (x8_2 < (l1.length : Int)) = true := decide_eq_true c31
       clear c31
       have HC32 := Aside0.mk H
       clear H
       go_upto_region 7 with (fail)
       go_cut [57] (fun v57 wc => ∃ (kq : Nat) (x57_31 : Bool), v57 = .bool x57_31 ∧ Aside0 (wharflaw19_RateOrder.j2 kq l1 a2 x8_2 x57_31 x508000_2 x508001_2 x508002_2 x508003_2 x508004_2 x508005_2 x508006_2 x508007_2 x508008_2 = some r) ∧ Aside0 (kq ≤ k2) ∧ Aside0 (Kd.V k41 41 wc w.heap.size (fun k_ => k_ ≠ gb501 ∧ k_ ≠ gb507) u508008 x508008_2) ∧ Aside0 (wc.heap[gb501]? = some (.cells #[.int .i64 a0_0, .int .i64 a0_1, .int .i64 a0_2, .int .i64 a0_3, .int .i64 a0_4, .int .i64 a0_5, .int .i64 a0_6, .int .i64 a0_7] 23 (0, 0))) ∧ Aside0 (wc.heap[gb507]? = some (.cells #[.int .i64 x508000_2, .int .i64 x508001_2, .int .i64 x508002_2, .int .i64 x508003_2, .int .i64 x508004_2, .int .i64 x508005_2, .int .i64 x508006_2, .int .i64 x508007_2, u508008] 36 (0, 0))) ∧ Aside0 (Below w.heap.size w wc))
       case first =>
        have H := HC32.out
        clear HC32
        by_cases c33 : 0 ≤ x8_2
        ·
         rw [if_pos c33] at H
         have c33b0 : decide (0 ≤ x8_2) = true := decide_eq_true c33
         clear c33
         (first | rw [c33b0] | (simp only [i64_w, i32_w]; rw [c33b0]) | skip)
         by_cases c34 : ((rd_T41 l1 x8_2).f0) = 11
         ·
          rw [if_pos c34] at H
          have c34b0 : (((rd_T41 l1 x8_2).f0) == 11) = true := beq_iff_eq.mpr c34
          have c34b1 : (((rd_T41 l1 x8_2).f0) != 11) = false := bne_eq_false_iff_eq.mpr c34
          clear c34
          have H' := Aside0.mk H
          clear H
          have p508 : 0 ≤ (x8_2 : Int) := of_decide_eq_true (by first | (with_reducible assumption) | assumption)
          have q508 : x8_2 < (l1.length : Int) := of_decide_eq_true (by first | (with_reducible assumption) | assumption)
          obtain ⟨ad508, A508_9, c508_9, A508_10, c508_10, e508, hx508_0, hx508_1, hx508_2, hx508_3, hx508_4, hx508_5, hx508_6, hx508_7, hx508_8, hx508_9, hx508_10, hl508_9, hi508_9, hl508_10, hi508_10⟩ := at_T41 HR1.out x8_2 p508 q508
          cases e508
          replace hx508_0 := (HB.out.cell (World.block_lt_of_cell? w _ hx508_0)).trans hx508_0
          replace hx508_1 := (HB.out.cell (World.block_lt_of_cell? w _ hx508_1)).trans hx508_1
          replace hx508_2 := (HB.out.cell (World.block_lt_of_cell? w _ hx508_2)).trans hx508_2
          replace hx508_3 := (HB.out.cell (World.block_lt_of_cell? w _ hx508_3)).trans hx508_3
          replace hx508_4 := (HB.out.cell (World.block_lt_of_cell? w _ hx508_4)).trans hx508_4
          replace hx508_5 := (HB.out.cell (World.block_lt_of_cell? w _ hx508_5)).trans hx508_5
          replace hx508_6 := (HB.out.cell (World.block_lt_of_cell? w _ hx508_6)).trans hx508_6
          replace hx508_7 := (HB.out.cell (World.block_lt_of_cell? w _ hx508_7)).trans hx508_7
          replace hx508_8 := (HB.out.cell (World.block_lt_of_cell? w _ hx508_8)).trans hx508_8
          replace hx508_9 := (HB.out.cell (World.block_lt_of_cell? w _ hx508_9)).trans hx508_9
          replace hx508_10 := (HB.out.cell (World.block_lt_of_cell? w _ hx508_10)).trans hx508_10
          have HR508_9 := Aside0.mk hi508_9
          have HC508_9 := Aside0.mk hl508_9
          clear hi508_9 hl508_9
          have HR508_10 := Aside0.mk hi508_10
          have HC508_10 := Aside0.mk hl508_10
          clear hi508_10 hl508_10
          replace p508 := eq_true p508
          replace q508 := eq_true q508
          go_wp2
          go_meet
          case rel => exact ⟨_, (true), (by first | rfl | (simp; done) | (simp [*]; done)), H', ⟨by have := HJ3.out; have := HK2.out; first | omega | exact Nat.le_refl _⟩, ⟨by (with_reducible repeat (first | apply Kd.V_alloc | apply Kd.V_drewN | apply Kd.V_drew)); exact HO_508008.out⟩, ⟨by (with_reducible repeat (first | refine blk_drewN ?_ _ | refine blk_drew ?_ | refine blk_alloc ?_ _)); exact BK501.out⟩, ⟨by (with_reducible repeat (first | refine blk_drewN ?_ _ | refine blk_drew ?_ | refine blk_alloc ?_ _)); exact BK507.out⟩, ⟨by repeat (first | (with_reducible first | exact HB.out | apply below_alloc | apply pw_below_drewN | apply below_drew1 | refine below_set ?_ GE501.out | refine below_set ?_ GE507.out) | exact HB.out)⟩⟩
         ·
          rw [if_neg c34] at H
          have c34b0 : (((rd_T41 l1 x8_2).f0) == 11) = false := beq_eq_false_iff_ne.mpr c34
          have c34b1 : (((rd_T41 l1 x8_2).f0) != 11) = true := bne_iff_ne.mpr c34
          have H' := Aside0.mk H
          clear H
          have p508 : 0 ≤ (x8_2 : Int) := of_decide_eq_true (by first | (with_reducible assumption) | assumption)
          have q508 : x8_2 < (l1.length : Int) := of_decide_eq_true (by first | (with_reducible assumption) | assumption)
          obtain ⟨ad508, A508_9, c508_9, A508_10, c508_10, e508, hx508_0, hx508_1, hx508_2, hx508_3, hx508_4, hx508_5, hx508_6, hx508_7, hx508_8, hx508_9, hx508_10, hl508_9, hi508_9, hl508_10, hi508_10⟩ := at_T41 HR1.out x8_2 p508 q508
          cases e508
          replace hx508_0 := (HB.out.cell (World.block_lt_of_cell? w _ hx508_0)).trans hx508_0
          replace hx508_1 := (HB.out.cell (World.block_lt_of_cell? w _ hx508_1)).trans hx508_1
          replace hx508_2 := (HB.out.cell (World.block_lt_of_cell? w _ hx508_2)).trans hx508_2
          replace hx508_3 := (HB.out.cell (World.block_lt_of_cell? w _ hx508_3)).trans hx508_3
          replace hx508_4 := (HB.out.cell (World.block_lt_of_cell? w _ hx508_4)).trans hx508_4
          replace hx508_5 := (HB.out.cell (World.block_lt_of_cell? w _ hx508_5)).trans hx508_5
          replace hx508_6 := (HB.out.cell (World.block_lt_of_cell? w _ hx508_6)).trans hx508_6
          replace hx508_7 := (HB.out.cell (World.block_lt_of_cell? w _ hx508_7)).trans hx508_7
          replace hx508_8 := (HB.out.cell (World.block_lt_of_cell? w _ hx508_8)).trans hx508_8
          replace hx508_9 := (HB.out.cell (World.block_lt_of_cell? w _ hx508_9)).trans hx508_9
          replace hx508_10 := (HB.out.cell (World.block_lt_of_cell? w _ hx508_10)).trans hx508_10
          have HR508_9 := Aside0.mk hi508_9
          have HC508_9 := Aside0.mk hl508_9
          clear hi508_9 hl508_9
          have HR508_10 := Aside0.mk hi508_10
          have HC508_10 := Aside0.mk hl508_10
          clear hi508_10 hl508_10
          replace p508 := eq_true p508
          replace q508 := eq_true q508
          have p509 : 0 ≤ (x8_2 : Int) := of_decide_eq_true (by first | (with_reducible assumption) | assumption)
          have q509 : x8_2 < (l1.length : Int) := of_decide_eq_true (by first | (with_reducible assumption) | assumption)
          obtain ⟨ad509, A509_9, c509_9, A509_10, c509_10, e509, hx509_0, hx509_1, hx509_2, hx509_3, hx509_4, hx509_5, hx509_6, hx509_7, hx509_8, hx509_9, hx509_10, hl509_9, hi509_9, hl509_10, hi509_10⟩ := at_T41 HR1.out x8_2 p509 q509
          obtain rfl : ad508 = ad509 := (by injection e509)
          replace hx509_0 := (HB.out.cell (World.block_lt_of_cell? w _ hx509_0)).trans hx509_0
          replace hx509_1 := (HB.out.cell (World.block_lt_of_cell? w _ hx509_1)).trans hx509_1
          replace hx509_2 := (HB.out.cell (World.block_lt_of_cell? w _ hx509_2)).trans hx509_2
          replace hx509_3 := (HB.out.cell (World.block_lt_of_cell? w _ hx509_3)).trans hx509_3
          replace hx509_4 := (HB.out.cell (World.block_lt_of_cell? w _ hx509_4)).trans hx509_4
          replace hx509_5 := (HB.out.cell (World.block_lt_of_cell? w _ hx509_5)).trans hx509_5
          replace hx509_6 := (HB.out.cell (World.block_lt_of_cell? w _ hx509_6)).trans hx509_6
          replace hx509_7 := (HB.out.cell (World.block_lt_of_cell? w _ hx509_7)).trans hx509_7
          replace hx509_8 := (HB.out.cell (World.block_lt_of_cell? w _ hx509_8)).trans hx509_8
          replace hx509_9 := (HB.out.cell (World.block_lt_of_cell? w _ hx509_9)).trans hx509_9
          replace hx509_10 := (HB.out.cell (World.block_lt_of_cell? w _ hx509_10)).trans hx509_10
          have HR509_9 := Aside0.mk hi509_9
          have HC509_9 := Aside0.mk hl509_9
          clear hi509_9 hl509_9
          have HR509_10 := Aside0.mk hi509_10
          have HC509_10 := Aside0.mk hl509_10
          clear hi509_10 hl509_10
          replace p509 := eq_true p509
          replace q509 := eq_true q509
          have ea_ := Option.some.inj (hx508_9.symm.trans hx509_9)
          injection ea_ with ea_ en_ ec_
          subst ea_
          subst ec_
          clear en_
          have ea_ := Option.some.inj (hx508_10.symm.trans hx509_10)
          injection ea_ with ea_ en_ ec_
          subst ea_
          subst ec_
          clear en_
          go_wp2
          go_meet
          case rel => exact ⟨_, ((((rd_T41 l1 x8_2).f0) == 12)), (by first | rfl | (simp; done) | (simp [*]; done)), H', ⟨by have := HJ3.out; have := HK2.out; first | omega | exact Nat.le_refl _⟩, ⟨by (with_reducible repeat (first | apply Kd.V_alloc | apply Kd.V_drewN | apply Kd.V_drew)); exact HO_508008.out⟩, ⟨by (with_reducible repeat (first | refine blk_drewN ?_ _ | refine blk_drew ?_ | refine blk_alloc ?_ _)); exact BK501.out⟩, ⟨by (with_reducible repeat (first | refine blk_drewN ?_ _ | refine blk_drew ?_ | refine blk_alloc ?_ _)); exact BK507.out⟩, ⟨by repeat (first | (with_reducible first | exact HB.out | apply below_alloc | apply pw_below_drewN | apply below_drew1 | refine below_set ?_ GE501.out | refine below_set ?_ GE507.out) | exact HB.out)⟩⟩
        ·
         rw [if_neg c33] at H
         exact absurd H (by simp)
       case rest =>
        clear HC32
        try clear c1
        try clear c2
        try clear p2
        try clear c3
        try clear c5
        try clear p5
        try clear q5
        try clear hx5
        try clear c7
        try clear c8
        try clear c8b0
        try clear c8b1
        try clear c9
        try clear c10
        try clear c12
        try clear c13
        try clear c24
        try clear c29
        try clear c31
        try clear c31b0
        try clear c33
        try clear c33b0
        try clear c34
        try clear c34b0
        try clear c34b1
        try clear hcz13_0
        try clear hcz13_1
        try clear hcz13_2
        try clear hcz13_3
        try clear hcz13_4
        try clear hcz13_5
        try clear hcz13_6
        try clear hcz13_7
        try clear hcz16_0
        try clear hcz16_1
        try clear hcz16_2
        try clear hcz16_3
        try clear hcz16_4
        try clear hcz16_5
        try clear hcz16_6
        try clear hcz16_7
        try clear hcz19_0
        try clear hcz19_1
        try clear hcz19_2
        try clear hcz19_3
        try clear hcz19_4
        try clear hcz19_5
        try clear hcz19_6
        try clear hcz19_7
        try clear hcz22_0
        try clear hcz22_1
        try clear hcz22_2
        try clear hcz22_3
        try clear hcz22_4
        try clear hcz22_5
        try clear hcz22_6
        try clear hcz22_7
        try clear hcz27_0
        try clear hcz27_1
        try clear hcz27_2
        try clear hcz27_3
        try clear hcz27_4
        try clear hcz27_5
        try clear hcz27_6
        try clear hcz27_7
        try clear hcz30_0
        try clear hcz30_1
        try clear hcz30_2
        try clear hcz30_3
        try clear hcz30_4
        try clear hcz30_5
        try clear hcz30_6
        try clear hcz30_7
        try clear hcz30_8
        try clear hfz13_0
        try clear hfz13_1
        try clear hfz13_2
        try clear hfz13_3
        try clear hfz13_4
        try clear hfz13_5
        try clear hfz13_6
        try clear hfz13_7
        try clear hfz16_0
        try clear hfz16_1
        try clear hfz16_2
        try clear hfz16_3
        try clear hfz16_4
        try clear hfz16_5
        try clear hfz16_6
        try clear hfz16_7
        try clear hfz19_0
        try clear hfz19_1
        try clear hfz19_2
        try clear hfz19_3
        try clear hfz19_4
        try clear hfz19_5
        try clear hfz19_6
        try clear hfz19_7
        try clear hfz22_0
        try clear hfz22_1
        try clear hfz22_2
        try clear hfz22_3
        try clear hfz22_4
        try clear hfz22_5
        try clear hfz22_6
        try clear hfz22_7
        try clear hfz27_0
        try clear hfz27_1
        try clear hfz27_2
        try clear hfz27_3
        try clear hfz27_4
        try clear hfz27_5
        try clear hfz27_6
        try clear hfz27_7
        try clear hfz30_0
        try clear hfz30_1
        try clear hfz30_2
        try clear hfz30_3
        try clear hfz30_4
        try clear hfz30_5
        try clear hfz30_6
        try clear hfz30_7
        try clear hfz30_8
        try clear hx508_0
        try clear hx508_1
        try clear hx508_10
        try clear hx508_2
        try clear hx508_3
        try clear hx508_4
        try clear hx508_5
        try clear hx508_6
        try clear hx508_7
        try clear hx508_8
        try clear hx508_9
        try clear hx509_0
        try clear hx509_1
        try clear hx509_10
        try clear hx509_2
        try clear hx509_3
        try clear hx509_4
        try clear hx509_5
        try clear hx509_6
        try clear hx509_7
        try clear hx509_8
        try clear hx509_9
        try clear p2
        try clear p508
        try clear p509
        try clear q508
        try clear q509
        obtain ⟨kq, x57_31, rfl, HA, HJ31, HO_508008, BK501, BK507, HB⟩ := hcut
        cases kq with
        | zero => exact absurd HA.out (by simp [wharflaw19_RateOrder.j2])
        | succ kj31 =>
         have H := HA.out
         clear HA
         simp only [wharflaw19_RateOrder.j2] at H
         by_cases c35 : x57_31 = true
         ·
          subst c35
          have H1 : ((wharflaw19_live.f kj31).bind fun t510 => (some t510)) = some r := by rw [if_pos rfl] at H; exact H
          clear H
          have H := H1
          clear H1
          replace H := Option.bind_eq_some_iff.mp H
          obtain ⟨t510, A360, H⟩ := H
          replace H : (some t510) = some r := H
          have A36 := Aside0.mk A360
          clear A360
          obtain rfl := Option.some.inj H
          go_wp2_with (first | ((with_reducible refine gate_callee (f := 13) rfl ?_); refine goesL_ (some 58) rfl rfl Try.func13 (by kernel_rfl) rfl #[] rfl (by (try simp only [List.map_toArray, List.map_cons, List.map_nil]); first | done | rfl | (simp only [List.length_drop, List.length_take]; rfl)) ?_; (with_reducible refine (wharflaw19_live.calls kj31  t510 _ A36.out).mono ?_); rintro e w37 ⟨rfl, hb⟩; refine ⟨_, rfl, ?_⟩; have n0_ := Aside0.mk (Kd.V_below (by (with_reducible repeat (first | apply Kd.V_alloc | apply Kd.V_drewN | apply Kd.V_drew)); exact HO_508008.out) hb); have n1_ := Aside0.mk (blk_below (g := gb501) (o := .cells #[.int .i64 a0_0, .int .i64 a0_1, .int .i64 a0_2, .int .i64 a0_3, .int .i64 a0_4, .int .i64 a0_5, .int .i64 a0_6, .int .i64 a0_7] 23 (0, 0)) (by (with_reducible repeat (first | refine blk_drewN ?_ _ | refine blk_drew ?_ | refine blk_alloc ?_ _)); exact BK501.out) hb); have n2_ := Aside0.mk (blk_below (g := gb507) (o := .cells #[.int .i64 x508000_2, .int .i64 x508001_2, .int .i64 x508002_2, .int .i64 x508003_2, .int .i64 x508004_2, .int .i64 x508005_2, .int .i64 x508006_2, .int .i64 x508007_2, u508008] 36 (0, 0)) (by (with_reducible repeat (first | refine blk_drewN ?_ _ | refine blk_drew ?_ | refine blk_alloc ?_ _)); exact BK507.out) hb); have n3_ := Aside0.mk (below_step (by repeat (first | (with_reducible first | exact HB.out | apply below_alloc | apply pw_below_drewN | apply below_drew1 | refine below_set ?_ GE501.out | refine below_set ?_ GE507.out) | exact HB.out)) hb); clear HO_508008; clear BK501; clear BK507; clear HB; have HO_508008 := n0_; have BK501 := n1_; have BK507 := n2_; have HB := n3_; clear n0_ n1_ n2_ n3_; (try clear hb); (try clear hb2); (try clear hk); (try clear hi)))
          go_ret
          exact ⟨by first | rfl | (simp [errW_none, errW_some] <;> rfl) | (simp [*, errW_none, errW_some] <;> rfl), by repeat (first | (with_reducible first | exact HB.out | apply below_alloc | apply pw_below_drewN | apply below_drew1 | refine below_set ?_ GE501.out | refine below_set ?_ GE507.out) | exact HB.out)⟩
         ·
          replace c35 := Bool.eq_false_iff.mpr c35
          subst c35
          have H1 : (if 0 ≤ x8_2 then (if x8_2 < (l1.length : Int) then ((rate_Push.f kj31 x508000_2 x508001_2 x508002_2 x508003_2 x508004_2 x508005_2 x508006_2 x508007_2 x508008_2 ((rd_T41 l1 x8_2).f0) ((rd_T41 l1 x8_2).f1) ((rd_T41 l1 x8_2).f2) ((rd_T41 l1 x8_2).f3) ((rd_T41 l1 x8_2).f4) ((rd_T41 l1 x8_2).f5) ((rd_T41 l1 x8_2).f6) ((rd_T41 l1 x8_2).f7) ((rd_T41 l1 x8_2).f8) ((rd_T41 l1 x8_2).f9) ((rd_T41 l1 x8_2).f10)).bind fun bt512 => ((wharflaw19_num.f bt512.2.2.2.2.2.2.2.2.2).bind fun t525 => (if t525 = 0 then (wharflaw19_RateOrder.l0 kj31 l1 a2 (wrap64 (x8_2 + 1)) bt512.1 bt512.2.1 bt512.2.2.1 bt512.2.2.2.1 bt512.2.2.2.2.1 bt512.2.2.2.2.2.1 bt512.2.2.2.2.2.2.1 bt512.2.2.2.2.2.2.2.1 bt512.2.2.2.2.2.2.2.2.1) else (some false)))) else (none)) else (none)) = some r := by rw [if_neg (show ¬ (false = true) by decide)] at H; exact H
          clear H
          have H := H1
          clear H1
          by_cases c38 : 0 ≤ x8_2
          ·
           rw [if_pos c38] at H
           have c38b0 : decide (0 ≤ x8_2) = true := decide_eq_true c38
           clear c38
           by_cases c39 : x8_2 < (l1.length : Int)
           ·
            rw [if_pos c39] at H
            have c39b0 : decide (x8_2 < (l1.length : Int)) = true := decide_eq_true c39
            clear c39
            (try (have c31b0zc39 := c31b0; simp only [c39b0, Bool.bne_true, Bool.bne_false, beq_true, beq_false, Bool.and_true, Bool.true_and, Bool.and_false, Bool.false_and, Bool.or_true, Bool.true_or, Bool.or_false, Bool.false_or, Bool.not_true, Bool.not_false] at c31b0zc39))
            replace H := Option.bind_eq_some_iff.mp H
            obtain ⟨⟨t512, t513, t514, t515, t516, t517, t518, t519, t520, t523⟩, A400, H⟩ := H
            replace H : ((wharflaw19_num.f t523).bind fun t525 => (if t525 = 0 then (wharflaw19_RateOrder.l0 kj31 l1 a2 (wrap64 (x8_2 + 1)) t512 t513 t514 t515 t516 t517 t518 t519 t520) else (some false))) = some r := H
            have A40 := Aside0.mk A400
            clear A400
            replace H := Option.bind_eq_some_iff.mp H
            obtain ⟨t525, A410, H⟩ := H
            replace H : (if t525 = 0 then (wharflaw19_RateOrder.l0 kj31 l1 a2 (wrap64 (x8_2 + 1)) t512 t513 t514 t515 t516 t517 t518 t519 t520) else (some false)) = some r := H
            have A41 := Aside0.mk A410
            clear A410
            by_cases c42 : t525 = 0
            ·
             rw [if_pos c42] at H
             have c42b0 : (t525 == 0) = true := beq_iff_eq.mpr c42
             have c42b1 : (t525 != 0) = false := bne_eq_false_iff_eq.mpr c42
             clear c42
             have H' := Aside0.mk H
             clear H
             obtain ⟨Ao43, co43, eo43⟩ := Kd.V_slice HO_508008.out
             subst eo43
             try go_wp2
             have n0_ := Aside0.mk (Kd.V_drew HO_508008.out)
             have n1_ := Aside0.mk (blk_drew BK501.out)
             have n2_ := Aside0.mk (blk_drew BK507.out)
             have n3_ := Aside0.mk (below_drew1 HB.out)
             clear HO_508008
             clear BK501
             clear BK507
             clear HB
             have HO_508008 := n0_
             have BK501 := n1_
             have BK507 := n2_
             have HB := n3_
             clear n0_ n1_ n2_ n3_
             have p511 : 0 ≤ (x8_2 : Int) := of_decide_eq_true (by first | (with_reducible assumption) | assumption)
             have q511 : x8_2 < (l1.length : Int) := of_decide_eq_true (by first | (with_reducible assumption) | assumption)
             obtain ⟨ad511, A511_9, c511_9, A511_10, c511_10, e511, hx511_0, hx511_1, hx511_2, hx511_3, hx511_4, hx511_5, hx511_6, hx511_7, hx511_8, hx511_9, hx511_10, hl511_9, hi511_9, hl511_10, hi511_10⟩ := at_T41 HR1.out x8_2 p511 q511
             have hw511_10 := hx511_10
             have hw511_9 := hx511_9
             have hw511_8 := hx511_8
             have hw511_7 := hx511_7
             have hw511_6 := hx511_6
             have hw511_5 := hx511_5
             have hw511_4 := hx511_4
             have hw511_3 := hx511_3
             have hw511_2 := hx511_2
             have hw511_1 := hx511_1
             have hw511_0 := hx511_0
             cases e511
             replace hx511_0 := (HB.out.cell (World.block_lt_of_cell? w _ hx511_0)).trans hx511_0
             replace hx511_1 := (HB.out.cell (World.block_lt_of_cell? w _ hx511_1)).trans hx511_1
             replace hx511_2 := (HB.out.cell (World.block_lt_of_cell? w _ hx511_2)).trans hx511_2
             replace hx511_3 := (HB.out.cell (World.block_lt_of_cell? w _ hx511_3)).trans hx511_3
             replace hx511_4 := (HB.out.cell (World.block_lt_of_cell? w _ hx511_4)).trans hx511_4
             replace hx511_5 := (HB.out.cell (World.block_lt_of_cell? w _ hx511_5)).trans hx511_5
             replace hx511_6 := (HB.out.cell (World.block_lt_of_cell? w _ hx511_6)).trans hx511_6
             replace hx511_7 := (HB.out.cell (World.block_lt_of_cell? w _ hx511_7)).trans hx511_7
             replace hx511_8 := (HB.out.cell (World.block_lt_of_cell? w _ hx511_8)).trans hx511_8
             replace hx511_9 := (HB.out.cell (World.block_lt_of_cell? w _ hx511_9)).trans hx511_9
             replace hx511_10 := (HB.out.cell (World.block_lt_of_cell? w _ hx511_10)).trans hx511_10
             have HR511_9 := Aside0.mk hi511_9
             have HC511_9 := Aside0.mk hl511_9
             clear hi511_9 hl511_9
             have HR511_10 := Aside0.mk hi511_10
             have HC511_10 := Aside0.mk hl511_10
             clear hi511_10 hl511_10
             replace p511 := eq_true p511
             replace q511 := eq_true q511
             refine start_ (n := 12) (S := fun w' => w'.cell? ⟨gb507, 0, none⟩ = some (.int .i64 x508000_2) ∧ w'.cell? ⟨gb507, 1, none⟩ = some (.int .i64 x508001_2) ∧ w'.cell? ⟨gb507, 2, none⟩ = some (.int .i64 x508002_2) ∧ w'.cell? ⟨gb507, 3, none⟩ = some (.int .i64 x508003_2) ∧ w'.cell? ⟨gb507, 4, none⟩ = some (.int .i64 x508004_2) ∧ w'.cell? ⟨gb507, 5, none⟩ = some (.int .i64 x508005_2) ∧ w'.cell? ⟨gb507, 6, none⟩ = some (.int .i64 x508006_2) ∧ w'.cell? ⟨gb507, 7, none⟩ = some (.int .i64 x508007_2) ∧ w'.cell? ⟨gb507, 8, none⟩ = some (.slice Ao43 x508008_2.length co43) ∧ w'.cell? (ad511.add ((x8_2).toNat * 11)) = some (.int .i64 ((rd_T41 l1 x8_2).f0)) ∧ w'.cell? ⟨(ad511.add ((x8_2).toNat * 11)).block, (ad511.add ((x8_2).toNat * 11)).off + 1, none⟩ = some (.string ((rd_T41 l1 x8_2).f1)) ∧ w'.cell? ⟨(ad511.add ((x8_2).toNat * 11)).block, (ad511.add ((x8_2).toNat * 11)).off + 2, none⟩ = some (.string ((rd_T41 l1 x8_2).f2)) ∧ w'.cell? ⟨(ad511.add ((x8_2).toNat * 11)).block, (ad511.add ((x8_2).toNat * 11)).off + 3, none⟩ = some (.string ((rd_T41 l1 x8_2).f3)) ∧ w'.cell? ⟨(ad511.add ((x8_2).toNat * 11)).block, (ad511.add ((x8_2).toNat * 11)).off + 4, none⟩ = some (.int .i64 ((rd_T41 l1 x8_2).f4)) ∧ w'.cell? ⟨(ad511.add ((x8_2).toNat * 11)).block, (ad511.add ((x8_2).toNat * 11)).off + 5, none⟩ = some (.int .i64 ((rd_T41 l1 x8_2).f5)) ∧ w'.cell? ⟨(ad511.add ((x8_2).toNat * 11)).block, (ad511.add ((x8_2).toNat * 11)).off + 6, none⟩ = some (.int .i64 ((rd_T41 l1 x8_2).f6)) ∧ w'.cell? ⟨(ad511.add ((x8_2).toNat * 11)).block, (ad511.add ((x8_2).toNat * 11)).off + 7, none⟩ = some (.int .i64 ((rd_T41 l1 x8_2).f7)) ∧ w'.cell? ⟨(ad511.add ((x8_2).toNat * 11)).block, (ad511.add ((x8_2).toNat * 11)).off + 8, none⟩ = some (.bool ((rd_T41 l1 x8_2).f8)) ∧ w'.cell? ⟨(ad511.add ((x8_2).toNat * 11)).block, (ad511.add ((x8_2).toNat * 11)).off + 9, none⟩ = some (.slice A511_9 ((rd_T41 l1 x8_2).f9).length c511_9) ∧ w'.cell? ⟨(ad511.add ((x8_2).toNat * 11)).block, (ad511.add ((x8_2).toNat * 11)).off + 10, none⟩ = some (.slice A511_10 ((rd_T41 l1 x8_2).f10).length c511_10)) (ds := []) #[false, false, false, false, false, false, false, false, false, false, false, false] (by kernel_rfl) rfl rfl ⟨(blk_cell BK507.out 0).trans rfl, (blk_cell BK507.out 1).trans rfl, (blk_cell BK507.out 2).trans rfl, (blk_cell BK507.out 3).trans rfl, (blk_cell BK507.out 4).trans rfl, (blk_cell BK507.out 5).trans rfl, (blk_cell BK507.out 6).trans rfl, (blk_cell BK507.out 7).trans rfl, (blk_cell BK507.out 8).trans rfl, ((HB.out.cell (World.block_lt_of_cell? w _ hw511_0)).trans hw511_0), ((HB.out.cell (World.block_lt_of_cell? w _ hw511_1)).trans hw511_1), ((HB.out.cell (World.block_lt_of_cell? w _ hw511_2)).trans hw511_2), ((HB.out.cell (World.block_lt_of_cell? w _ hw511_3)).trans hw511_3), ((HB.out.cell (World.block_lt_of_cell? w _ hw511_4)).trans hw511_4), ((HB.out.cell (World.block_lt_of_cell? w _ hw511_5)).trans hw511_5), ((HB.out.cell (World.block_lt_of_cell? w _ hw511_6)).trans hw511_6), ((HB.out.cell (World.block_lt_of_cell? w _ hw511_7)).trans hw511_7), ((HB.out.cell (World.block_lt_of_cell? w _ hw511_8)).trans hw511_8), ((HB.out.cell (World.block_lt_of_cell? w _ hw511_9)).trans hw511_9), ((HB.out.cell (World.block_lt_of_cell? w _ hw511_10)).trans hw511_10)⟩ (fun hHeld => ?_); refine with_tabW wharflaw19_RateOrder.tab9 wharflaw19_RateOrder.bits9 (fun HT_ HW_ => ?_)
             generalize wc.drew = w44 at HO_508008 BK501 BK507 HB HR511_10 HR511_9 hx511_0 hx511_1 hx511_10 hx511_2 hx511_3 hx511_4 hx511_5 hx511_6 hx511_7 hx511_8 hx511_9 hHeld ⊢
             refine pure_ (i := 1) (N := some 61) (v := ?_) (a' := ?_) #[false, true, false, false, false, false, false, false, false, false, false, false] rfl rfl (any_of HT_.out (by kernel_rfl)) (fun _ _ _ h => h) (Or.inl ⟨by rfl, ?_⟩) ?_ ?_
             rotate_left
             ·
              intro w'
              go_simp
              with_reducible rfl
             rotate_left
             ·
              simp only [Act.put, List.setIfInBounds_toArray, List.set_cons_zero, List.set_cons_succ, i64_w, i32_w]
              rfl
             refine pure_ (i := 2) (N := some 62) (v := ?_) (a' := ?_) #[false, true, true, false, false, false, false, false, false, false, false, false] rfl rfl (any_of HT_.out (by kernel_rfl)) (fun _ _ _ h => h) (Or.inl ⟨by rfl, ?_⟩) ?_ ?_
             rotate_left
             ·
              intro w'
              go_simp
              with_reducible rfl
             rotate_left
             ·
              simp only [Act.put, List.setIfInBounds_toArray, List.set_cons_zero, List.set_cons_succ, i64_w, i32_w]
              rfl
             refine pure_ (i := 3) (N := some 63) (v := ?_) (a' := ?_) #[false, true, true, true, false, false, false, false, false, false, false, false] rfl rfl (any_of HT_.out (by kernel_rfl)) (fun _ _ _ h => h) (Or.inl ⟨by rfl, ?_⟩) ?_ ?_
             rotate_left
             ·
              intro w'
              go_simp
              with_reducible rfl
             rotate_left
             ·
              simp only [Act.put, List.setIfInBounds_toArray, List.set_cons_zero, List.set_cons_succ, i64_w, i32_w]
              rfl
             refine take_ (i := 0) (N := some 60) (v := ?_) (a' := ?_) #[true, true, true, true, false, false, false, false, false, false, false, false] rfl rfl (take_ofW HT_.out HW_.out (by kernel_rfl)) (fun _ _ _ h => h) (Or.inl ⟨by rfl, ?_⟩) hHeld ?_ ?_
             rotate_left
             ·
              rintro w' ⟨s0, s1, s2, s3, s4, s5, s6, s7, s8, s9, s10, s11, s12, s13, s14, s15, s16, s17, s18, s19⟩
              go_simp
              with_reducible rfl
             rotate_left
             ·
              simp only [Act.put, List.setIfInBounds_toArray, List.set_cons_zero, List.set_cons_succ, i64_w, i32_w]
              rfl
             refine take_ (i := 4) (N := some 64) (v := ?_) (a' := ?_) #[true, true, true, true, true, false, false, false, false, false, false, false] rfl rfl (take_ofW HT_.out HW_.out (by kernel_rfl)) (fun _ _ _ h => h) (Or.inl ⟨by rfl, ?_⟩) hHeld ?_ ?_
             rotate_left
             ·
              rintro w' ⟨s0, s1, s2, s3, s4, s5, s6, s7, s8, s9, s10, s11, s12, s13, s14, s15, s16, s17, s18, s19⟩
              go_simp
              with_reducible rfl
             rotate_left
             ·
              simp only [Act.put, List.setIfInBounds_toArray, List.set_cons_zero, List.set_cons_succ, i64_w, i32_w]
              rfl
             refine join_ (σ := Value × Nat) 2 #[true, true, true, true, true, true, true, true, true, true, false, false] (fun s_ => [(65, .tuple #[.agg #[.int .i64 t512, .int .i64 t513, .int .i64 t514, .int .i64 t515, .int .i64 t516, .int .i64 t517, .int .i64 t518, .int .i64 t519, s_.1], .int .i64 t523]), (9, .pointer (some ⟨s_.2, 0, none⟩)), (59, .tuple #[.agg #[.int .i64 t512, .int .i64 t513, .int .i64 t514, .int .i64 t515, .int .i64 t516, .int .i64 t517, .int .i64 t518, .int .i64 t519, s_.1], .int .i64 t523]), (66, .agg #[.int .i64 t512, .int .i64 t513, .int .i64 t514, .int .i64 t515, .int .i64 t516, .int .i64 t517, .int .i64 t518, .int .i64 t519, s_.1]), (67, .int .i64 t523)]) (fun s_ w' => (w'.cell? ⟨gb507, 0, none⟩ = some (.int .i64 x508000_2) ∧ w'.cell? ⟨gb507, 1, none⟩ = some (.int .i64 x508001_2) ∧ w'.cell? ⟨gb507, 2, none⟩ = some (.int .i64 x508002_2) ∧ w'.cell? ⟨gb507, 3, none⟩ = some (.int .i64 x508003_2) ∧ w'.cell? ⟨gb507, 4, none⟩ = some (.int .i64 x508004_2) ∧ w'.cell? ⟨gb507, 5, none⟩ = some (.int .i64 x508005_2) ∧ w'.cell? ⟨gb507, 6, none⟩ = some (.int .i64 x508006_2) ∧ w'.cell? ⟨gb507, 7, none⟩ = some (.int .i64 x508007_2) ∧ w'.cell? ⟨gb507, 8, none⟩ = some (.slice Ao43 x508008_2.length co43) ∧ w'.cell? (ad511.add ((x8_2).toNat * 11)) = some (.int .i64 ((rd_T41 l1 x8_2).f0)) ∧ w'.cell? ⟨(ad511.add ((x8_2).toNat * 11)).block, (ad511.add ((x8_2).toNat * 11)).off + 1, none⟩ = some (.string ((rd_T41 l1 x8_2).f1)) ∧ w'.cell? ⟨(ad511.add ((x8_2).toNat * 11)).block, (ad511.add ((x8_2).toNat * 11)).off + 2, none⟩ = some (.string ((rd_T41 l1 x8_2).f2)) ∧ w'.cell? ⟨(ad511.add ((x8_2).toNat * 11)).block, (ad511.add ((x8_2).toNat * 11)).off + 3, none⟩ = some (.string ((rd_T41 l1 x8_2).f3)) ∧ w'.cell? ⟨(ad511.add ((x8_2).toNat * 11)).block, (ad511.add ((x8_2).toNat * 11)).off + 4, none⟩ = some (.int .i64 ((rd_T41 l1 x8_2).f4)) ∧ w'.cell? ⟨(ad511.add ((x8_2).toNat * 11)).block, (ad511.add ((x8_2).toNat * 11)).off + 5, none⟩ = some (.int .i64 ((rd_T41 l1 x8_2).f5)) ∧ w'.cell? ⟨(ad511.add ((x8_2).toNat * 11)).block, (ad511.add ((x8_2).toNat * 11)).off + 6, none⟩ = some (.int .i64 ((rd_T41 l1 x8_2).f6)) ∧ w'.cell? ⟨(ad511.add ((x8_2).toNat * 11)).block, (ad511.add ((x8_2).toNat * 11)).off + 7, none⟩ = some (.int .i64 ((rd_T41 l1 x8_2).f7)) ∧ w'.cell? ⟨(ad511.add ((x8_2).toNat * 11)).block, (ad511.add ((x8_2).toNat * 11)).off + 8, none⟩ = some (.bool ((rd_T41 l1 x8_2).f8)) ∧ w'.cell? ⟨(ad511.add ((x8_2).toNat * 11)).block, (ad511.add ((x8_2).toNat * 11)).off + 9, none⟩ = some (.slice A511_9 ((rd_T41 l1 x8_2).f9).length c511_9) ∧ w'.cell? ⟨(ad511.add ((x8_2).toNat * 11)).block, (ad511.add ((x8_2).toNat * 11)).off + 10, none⟩ = some (.slice A511_10 ((rd_T41 l1 x8_2).f10).length c511_10)) ∧ (Kd.V k41 41 w' w.heap.size (fun k_ => k_ ≠ gb501 ∧ k_ ≠ gb507 ∧ k_ ≠ s_.2) s_.1 t520) ∧ (Kd.V k41 41 w' w.heap.size (fun k_ => k_ ≠ gb501 ∧ k_ ≠ gb507 ∧ k_ ≠ s_.2) (.slice Ao43 x508008_2.length co43) x508008_2) ∧ (w'.heap[gb501]? = some (.cells #[.int .i64 a0_0, .int .i64 a0_1, .int .i64 a0_2, .int .i64 a0_3, .int .i64 a0_4, .int .i64 a0_5, .int .i64 a0_6, .int .i64 a0_7] 23 (0, 0))) ∧ (w'.heap[gb507]? = some (.cells #[.int .i64 x508000_2, .int .i64 x508001_2, .int .i64 x508002_2, .int .i64 x508003_2, .int .i64 x508004_2, .int .i64 x508005_2, .int .i64 x508006_2, .int .i64 x508007_2, .slice Ao43 x508008_2.length co43] 36 (0, 0))) ∧ (w'.heap[s_.2]? = some (.cells #[.int .i64 0, .int .i64 0, .int .i64 0, .int .i64 0, .int .i64 0, .int .i64 0, .int .i64 0, .int .i64 0, .slice none 0 0] 36 (0, 0))) ∧ (w.heap.size ≤ s_.2) ∧ (w.heap.size ≤ s_.2) ∧ (gb501 ≠ s_.2) ∧ (s_.2 ≠ gb501) ∧ (gb507 ≠ s_.2) ∧ (s_.2 ≠ gb507) ∧ (Below w.heap.size w w')) ?_ ?_
             rotate_left
             ·
              intro hCont
              refine two_ (i := 5) (j := 9) (Ni := some 65) (Nj := some 9) #[true, true, true, true, true, true, false, false, false, false, false, false] #[true, true, true, true, true, false, false, false, false, true, false, false] rfl rfl rfl rfl (two_of HT_.out (by kernel_rfl)) (by decide) (by decide) (fun K hK => ?_) (fun K hK => ?_)
              ·
               skip
               refine goes_ Try.func23 (by kernel_rfl) rfl #[.agg #[.int .i64 x508000_2, .int .i64 x508001_2, .int .i64 x508002_2, .int .i64 x508003_2, .int .i64 x508004_2, .int .i64 x508005_2, .int .i64 x508006_2, .int .i64 x508007_2, .slice Ao43 x508008_2.length co43], .agg #[.int .i64 ((rd_T41 l1 x8_2).f0), .string ((rd_T41 l1 x8_2).f1), .string ((rd_T41 l1 x8_2).f2), .string ((rd_T41 l1 x8_2).f3), .int .i64 ((rd_T41 l1 x8_2).f4), .int .i64 ((rd_T41 l1 x8_2).f5), .int .i64 ((rd_T41 l1 x8_2).f6), .int .i64 ((rd_T41 l1 x8_2).f7), .bool ((rd_T41 l1 x8_2).f8), .slice A511_9 ((rd_T41 l1 x8_2).f9).length c511_9, .slice A511_10 ((rd_T41 l1 x8_2).f10).length c511_10]] (by rfl) rfl rfl (by (try simp only [List.map_toArray, List.map_cons, List.map_nil]); first | done | rfl | (simp only [List.length_drop, List.length_take]; rfl)) ?_
               with_reducible refine (rate_Push.calls kj31 x508000_2 x508001_2 x508002_2 x508003_2 x508004_2 x508005_2 x508006_2 x508007_2 (fun k_ => (k_ ≠ gb501 ∧ k_ ≠ gb507)) _ _ x508008_2 ((rd_T41 l1 x8_2).f0) ((rd_T41 l1 x8_2).f1) ((rd_T41 l1 x8_2).f2) ((rd_T41 l1 x8_2).f3) ((rd_T41 l1 x8_2).f4) ((rd_T41 l1 x8_2).f5) ((rd_T41 l1 x8_2).f6) ((rd_T41 l1 x8_2).f7) ((rd_T41 l1 x8_2).f8) (fun k_ => k_ < w.heap.size) _ _ ((rd_T41 l1 x8_2).f9) (fun k_ => k_ < w.heap.size) _ _ ((rd_T41 l1 x8_2).f10) t512 t513 t514 t515 t516 t517 t518 t519 t520 t523 _ ?side1 ?side2 ?side3 A40.out).mono ?_
               (case side1 => exact HO_508008.out)
               (case side2 => exact Kd.V_mk HC511_9.out (Kd.F_below (Kd.C_F k69_heap HR511_9.out) (by repeat (first | (with_reducible first | exact HB.out | apply below_alloc | apply pw_below_drewN | apply below_drew1 | refine below_set ?_ GE501.out | refine below_set ?_ GE507.out) | exact HB.out))))
               (case side3 => exact Kd.V_mk HC511_10.out (Kd.F_below (Kd.C_F (Kd.heap_int .i64) HR511_10.out) (by repeat (first | (with_reducible first | exact HB.out | apply below_alloc | apply pw_below_drewN | apply below_drew1 | refine below_set ?_ GE501.out | refine below_set ?_ GE507.out) | exact HB.out))))
               rintro e w45 ⟨v521, rfl, ho0, hb⟩
               refine ⟨_, rfl, ?_⟩
               have n0_ := Aside0.mk (Kd.V_below (by (with_reducible repeat (first | apply Kd.V_alloc | apply Kd.V_drewN | apply Kd.V_drew)); exact HO_508008.out) hb)
               have n1_ := Aside0.mk (Kd.V_lower (Kd.V_mono (ok' := fun k_ => k_ ≠ gb501 ∧ k_ ≠ gb507) ho0 (fun k_ hk_ => ⟨Or.elim hk_ (fun hs_ => Or.elim hs_ (fun hs_ => hs_.1) (fun hs_ => Or.elim hs_ (fun hs_ => fun e_ => Nat.not_le.2 hs_ (by rw [e_]; exact GW501.out)) (fun hs_ => fun e_ => Nat.not_le.2 hs_ (by rw [e_]; exact GW501.out)))) (fun hn_ => (Kd.freshB (g := gb501) (o := .cells #[.int .i64 a0_0, .int .i64 a0_1, .int .i64 a0_2, .int .i64 a0_3, .int .i64 a0_4, .int .i64 a0_5, .int .i64 a0_6, .int .i64 a0_7] 23 (0, 0)) (by (with_reducible repeat (first | refine blk_drewN ?_ _ | refine blk_drew ?_ | refine blk_alloc ?_ _)); exact BK501.out) k_ hn_)), Or.elim hk_ (fun hs_ => Or.elim hs_ (fun hs_ => hs_.2) (fun hs_ => Or.elim hs_ (fun hs_ => fun e_ => Nat.not_le.2 hs_ (by rw [e_]; exact GW507.out)) (fun hs_ => fun e_ => Nat.not_le.2 hs_ (by rw [e_]; exact GW507.out)))) (fun hn_ => (Kd.freshB (g := gb507) (o := .cells #[.int .i64 x508000_2, .int .i64 x508001_2, .int .i64 x508002_2, .int .i64 x508003_2, .int .i64 x508004_2, .int .i64 x508005_2, .int .i64 x508006_2, .int .i64 x508007_2, .slice Ao43 x508008_2.length co43] 36 (0, 0)) (by (with_reducible repeat (first | refine blk_drewN ?_ _ | refine blk_drew ?_ | refine blk_alloc ?_ _)); exact BK507.out) k_ hn_))⟩)) (below_size (by repeat (first | (with_reducible first | exact HB.out | apply below_alloc | apply pw_below_drewN | apply below_drew1 | refine below_set ?_ GE501.out | refine below_set ?_ GE507.out) | exact HB.out))))
               have n2_ := Aside0.mk (blk_below (g := gb501) (o := .cells #[.int .i64 a0_0, .int .i64 a0_1, .int .i64 a0_2, .int .i64 a0_3, .int .i64 a0_4, .int .i64 a0_5, .int .i64 a0_6, .int .i64 a0_7] 23 (0, 0)) (by (with_reducible repeat (first | refine blk_drewN ?_ _ | refine blk_drew ?_ | refine blk_alloc ?_ _)); exact BK501.out) hb)
               have n3_ := Aside0.mk (blk_below (g := gb507) (o := .cells #[.int .i64 x508000_2, .int .i64 x508001_2, .int .i64 x508002_2, .int .i64 x508003_2, .int .i64 x508004_2, .int .i64 x508005_2, .int .i64 x508006_2, .int .i64 x508007_2, .slice Ao43 x508008_2.length co43] 36 (0, 0)) (by (with_reducible repeat (first | refine blk_drewN ?_ _ | refine blk_drew ?_ | refine blk_alloc ?_ _)); exact BK507.out) hb)
               have n4_ := Aside0.mk (below_step (by repeat (first | (with_reducible first | exact HB.out | apply below_alloc | apply pw_below_drewN | apply below_drew1 | refine below_set ?_ GE501.out | refine below_set ?_ GE507.out) | exact HB.out)) hb)
               clear HO_508008
               clear BK501
               clear BK507
               clear HB
               have HO_508008 := n0_
               have HO522 := n1_
               have BK501 := n2_
               have BK507 := n3_
               have HB := n4_
               clear n0_ n1_ n2_ n3_ n4_
               (try clear hb)
               (try clear hb2)
               (try clear hk)
               (try clear hi)
               (try clear ho0)
               refine hK.out _ _ ⟨(blk_cell BK507.out 0).trans rfl, (blk_cell BK507.out 1).trans rfl, (blk_cell BK507.out 2).trans rfl, (blk_cell BK507.out 3).trans rfl, (blk_cell BK507.out 4).trans rfl, (blk_cell BK507.out 5).trans rfl, (blk_cell BK507.out 6).trans rfl, (blk_cell BK507.out 7).trans rfl, (blk_cell BK507.out 8).trans rfl, ((HB.out.cell (World.block_lt_of_cell? w _ hw511_0)).trans hw511_0), ((HB.out.cell (World.block_lt_of_cell? w _ hw511_1)).trans hw511_1), ((HB.out.cell (World.block_lt_of_cell? w _ hw511_2)).trans hw511_2), ((HB.out.cell (World.block_lt_of_cell? w _ hw511_3)).trans hw511_3), ((HB.out.cell (World.block_lt_of_cell? w _ hw511_4)).trans hw511_4), ((HB.out.cell (World.block_lt_of_cell? w _ hw511_5)).trans hw511_5), ((HB.out.cell (World.block_lt_of_cell? w _ hw511_6)).trans hw511_6), ((HB.out.cell (World.block_lt_of_cell? w _ hw511_7)).trans hw511_7), ((HB.out.cell (World.block_lt_of_cell? w _ hw511_8)).trans hw511_8), ((HB.out.cell (World.block_lt_of_cell? w _ hw511_9)).trans hw511_9), ((HB.out.cell (World.block_lt_of_cell? w _ hw511_10)).trans hw511_10)⟩ (fun hHeld => ?_)
               clear hK K
               refine norm_ (a' := ?_) ?_ ?_
               rotate_left
               ·
                show Act.put _ (some 65) _ = _
                simp only [Act.put, List.setIfInBounds_toArray, List.set_cons_zero, List.set_cons_succ, i64_w, i32_w]
                rfl
               refine pure_ (i := 6) (N := some 59) (v := ?_) (a' := ?_) #[true, true, true, true, true, true, true, false, false, false, false, false] rfl rfl (any_of HT_.out (by kernel_rfl)) (fun _ _ _ h => h) (Or.inl ⟨by rfl, ?_⟩) ?_ ?_
               rotate_left
               ·
                intro w'
                go_simp
                with_reducible rfl
               rotate_left
               ·
                simp only [Act.put, List.setIfInBounds_toArray, List.set_cons_zero, List.set_cons_succ, i64_w, i32_w]
                rfl
               refine pure_ (i := 7) (N := some 66) (v := ?_) (a' := ?_) #[true, true, true, true, true, true, true, true, false, false, false, false] rfl rfl (any_of HT_.out (by kernel_rfl)) (fun _ _ _ h => h) (Or.inl ⟨by rfl, ?_⟩) ?_ ?_
               rotate_left
               ·
                intro w'
                go_simp
                with_reducible rfl
               rotate_left
               ·
                simp only [Act.put, List.setIfInBounds_toArray, List.set_cons_zero, List.set_cons_succ, i64_w, i32_w]
                rfl
               refine pure_ (i := 8) (N := some 67) (v := ?_) (a' := ?_) #[true, true, true, true, true, true, true, true, true, false, false, false] rfl rfl (any_of HT_.out (by kernel_rfl)) (fun _ _ _ h => h) (Or.inl ⟨by rfl, ?_⟩) ?_ ?_
               rotate_left
               ·
                intro w'
                go_simp
                with_reducible rfl
               rotate_left
               ·
                simp only [Act.put, List.setIfInBounds_toArray, List.set_cons_zero, List.set_cons_succ, i64_w, i32_w]
                rfl
               refine one_ (i := 9) (N := some 9) #[true, true, true, true, true, true, true, true, true, true, false, false] rfl rfl (one_of HT_.out (by kernel_rfl)) (by decide) (fun K hK => ?_)
               refine box_step ?hg (N := 9) ?hd (cs := #[.int .i64 0, .int .i64 0, .int .i64 0, .int .i64 0, .int .i64 0, .int .i64 0, .int .i64 0, .int .i64 0, .slice none 0 0]) (t := 36) ?hr ?_; (case hd => rfl); (case hg => rfl); (case hr => first | (go_simp; done) | (go_simp; rfl))
               intro gb524 hg w46 hbox hb
               have n0_ := Aside0.mk (Kd.V_below (Kd.V_elderB (by (with_reducible repeat (first | apply Kd.V_alloc | apply Kd.V_drewN | apply Kd.V_drew)); exact HO_508008.out) gb524 (Nat.le_of_eq hg.symm)) hb)
               have n1_ := Aside0.mk (Kd.V_below (Kd.V_elderB (by (with_reducible repeat (first | apply Kd.V_alloc | apply Kd.V_drewN | apply Kd.V_drew)); exact HO522.out) gb524 (Nat.le_of_eq hg.symm)) hb)
               have n2_ := Aside0.mk (blk_below (g := gb501) (o := .cells #[.int .i64 a0_0, .int .i64 a0_1, .int .i64 a0_2, .int .i64 a0_3, .int .i64 a0_4, .int .i64 a0_5, .int .i64 a0_6, .int .i64 a0_7] 23 (0, 0)) (by (with_reducible repeat (first | refine blk_drewN ?_ _ | refine blk_drew ?_ | refine blk_alloc ?_ _)); exact BK501.out) hb)
               have n3_ := Aside0.mk (blk_below (g := gb507) (o := .cells #[.int .i64 x508000_2, .int .i64 x508001_2, .int .i64 x508002_2, .int .i64 x508003_2, .int .i64 x508004_2, .int .i64 x508005_2, .int .i64 x508006_2, .int .i64 x508007_2, .slice Ao43 x508008_2.length co43] 36 (0, 0)) (by (with_reducible repeat (first | refine blk_drewN ?_ _ | refine blk_drew ?_ | refine blk_alloc ?_ _)); exact BK507.out) hb)
               have n4_ := Aside0.mk (below_step (by repeat (first | (with_reducible first | exact HB.out | apply below_alloc | apply pw_below_drewN | apply below_drew1 | refine below_set ?_ GE501.out | refine below_set ?_ GE507.out) | exact HB.out)) hb)
               have n5_ := Aside0.mk (hbox)
               have n6_ := Aside0.mk ((by rw [hg]; exact (below_size (by repeat (first | (with_reducible first | exact HB.out | apply below_alloc | apply pw_below_drewN | apply below_drew1 | refine below_set ?_ GE501.out | refine below_set ?_ GE507.out) | exact HB.out))) : w.heap.size ≤ gb524))
               have n7_ := Aside0.mk ((by rw [hg]; exact (below_size (by repeat (first | (with_reducible first | exact HB.out | apply below_alloc | apply pw_below_drewN | apply below_drew1 | refine below_set ?_ GE501.out | refine below_set ?_ GE507.out) | exact HB.out))) : w.heap.size ≤ gb524))
               have n8_ := Aside0.mk ((by rw [hg]; exact Nat.ne_of_lt (blk_lt (g := gb501) (o := .cells #[.int .i64 a0_0, .int .i64 a0_1, .int .i64 a0_2, .int .i64 a0_3, .int .i64 a0_4, .int .i64 a0_5, .int .i64 a0_6, .int .i64 a0_7] 23 (0, 0)) (by (with_reducible repeat (first | refine blk_drewN ?_ _ | refine blk_drew ?_ | refine blk_alloc ?_ _)); exact BK501.out)) : gb501 ≠ gb524))
               have n9_ := Aside0.mk ((by rw [hg]; exact Nat.ne_of_gt (blk_lt (g := gb501) (o := .cells #[.int .i64 a0_0, .int .i64 a0_1, .int .i64 a0_2, .int .i64 a0_3, .int .i64 a0_4, .int .i64 a0_5, .int .i64 a0_6, .int .i64 a0_7] 23 (0, 0)) (by (with_reducible repeat (first | refine blk_drewN ?_ _ | refine blk_drew ?_ | refine blk_alloc ?_ _)); exact BK501.out)) : gb524 ≠ gb501))
               have n10_ := Aside0.mk ((by rw [hg]; exact Nat.ne_of_lt (blk_lt (g := gb507) (o := .cells #[.int .i64 x508000_2, .int .i64 x508001_2, .int .i64 x508002_2, .int .i64 x508003_2, .int .i64 x508004_2, .int .i64 x508005_2, .int .i64 x508006_2, .int .i64 x508007_2, .slice Ao43 x508008_2.length co43] 36 (0, 0)) (by (with_reducible repeat (first | refine blk_drewN ?_ _ | refine blk_drew ?_ | refine blk_alloc ?_ _)); exact BK507.out)) : gb507 ≠ gb524))
               have n11_ := Aside0.mk ((by rw [hg]; exact Nat.ne_of_gt (blk_lt (g := gb507) (o := .cells #[.int .i64 x508000_2, .int .i64 x508001_2, .int .i64 x508002_2, .int .i64 x508003_2, .int .i64 x508004_2, .int .i64 x508005_2, .int .i64 x508006_2, .int .i64 x508007_2, .slice Ao43 x508008_2.length co43] 36 (0, 0)) (by (with_reducible repeat (first | refine blk_drewN ?_ _ | refine blk_drew ?_ | refine blk_alloc ?_ _)); exact BK507.out)) : gb524 ≠ gb507))
               clear HO_508008
               clear HO522
               clear BK501
               clear BK507
               clear HB
               have HO_508008 := n0_
               have HO522 := n1_
               have BK501 := n2_
               have BK507 := n3_
               have HB := n4_
               have BK524 := n5_
               have GW524 := n6_
               have GE524 := n7_
               have NB501_524 := n8_
               have NB524_501 := n9_
               have NB507_524 := n10_
               have NB524_507 := n11_
               clear n0_ n1_ n2_ n3_ n4_ n5_ n6_ n7_ n8_ n9_ n10_ n11_
               clear hb hbox hg
               refine hK.out _ _ ⟨(blk_cell BK507.out 0).trans rfl, (blk_cell BK507.out 1).trans rfl, (blk_cell BK507.out 2).trans rfl, (blk_cell BK507.out 3).trans rfl, (blk_cell BK507.out 4).trans rfl, (blk_cell BK507.out 5).trans rfl, (blk_cell BK507.out 6).trans rfl, (blk_cell BK507.out 7).trans rfl, (blk_cell BK507.out 8).trans rfl, ((HB.out.cell (World.block_lt_of_cell? w _ hw511_0)).trans hw511_0), ((HB.out.cell (World.block_lt_of_cell? w _ hw511_1)).trans hw511_1), ((HB.out.cell (World.block_lt_of_cell? w _ hw511_2)).trans hw511_2), ((HB.out.cell (World.block_lt_of_cell? w _ hw511_3)).trans hw511_3), ((HB.out.cell (World.block_lt_of_cell? w _ hw511_4)).trans hw511_4), ((HB.out.cell (World.block_lt_of_cell? w _ hw511_5)).trans hw511_5), ((HB.out.cell (World.block_lt_of_cell? w _ hw511_6)).trans hw511_6), ((HB.out.cell (World.block_lt_of_cell? w _ hw511_7)).trans hw511_7), ((HB.out.cell (World.block_lt_of_cell? w _ hw511_8)).trans hw511_8), ((HB.out.cell (World.block_lt_of_cell? w _ hw511_9)).trans hw511_9), ((HB.out.cell (World.block_lt_of_cell? w _ hw511_10)).trans hw511_10)⟩ (fun hHeld => ?_)
               clear hK K
               refine norm_ (a' := ?_) ?_ ?_
               rotate_left
               ·
                show Act.put _ (some 9) _ = _
                simp only [Act.put, List.setIfInBounds_toArray, List.set_cons_zero, List.set_cons_succ, i64_w, i32_w]
                rfl
               exact norm_ (by simp only [putAll, Act.put, List.setIfInBounds_toArray, List.set_cons_zero, List.set_cons_succ]) (hCont (v521, gb524) _ ⟨hHeld, (by (with_reducible repeat (first | apply Kd.V_alloc | apply Kd.V_drewN | apply Kd.V_drew)); exact Kd.V_mono HO522.out (fun _ hk => ⟨hk.1.1, ⟨hk.1.2, hk.2⟩⟩)), (by (with_reducible repeat (first | apply Kd.V_alloc | apply Kd.V_drewN | apply Kd.V_drew)); exact Kd.V_mono HO_508008.out (fun _ hk => ⟨hk.1.1, ⟨hk.1.2, hk.2⟩⟩)), (by (with_reducible repeat (first | refine blk_drewN ?_ _ | refine blk_drew ?_ | refine blk_alloc ?_ _)); exact BK501.out), (by (with_reducible repeat (first | refine blk_drewN ?_ _ | refine blk_drew ?_ | refine blk_alloc ?_ _)); exact BK507.out), (by (with_reducible repeat (first | refine blk_drewN ?_ _ | refine blk_drew ?_ | refine blk_alloc ?_ _)); exact BK524.out), GW524.out, GE524.out, NB501_524.out, NB524_501.out, NB507_524.out, NB524_507.out, (by repeat (first | (with_reducible first | exact HB.out | apply below_alloc | apply pw_below_drewN | apply below_drew1 | refine below_set ?_ GE501.out | refine below_set ?_ GE507.out | refine below_set ?_ GE524.out) | exact HB.out))⟩)
              ·
               skip
               refine box_step ?hg (N := 9) ?hd (cs := #[.int .i64 0, .int .i64 0, .int .i64 0, .int .i64 0, .int .i64 0, .int .i64 0, .int .i64 0, .int .i64 0, .slice none 0 0]) (t := 36) ?hr ?_; (case hd => rfl); (case hg => rfl); (case hr => first | (go_simp; done) | (go_simp; rfl))
               intro gb524 hg w45 hbox hb
               have n0_ := Aside0.mk (Kd.V_below (Kd.V_elderB (by (with_reducible repeat (first | apply Kd.V_alloc | apply Kd.V_drewN | apply Kd.V_drew)); exact HO_508008.out) gb524 (Nat.le_of_eq hg.symm)) hb)
               have n1_ := Aside0.mk (blk_below (g := gb501) (o := .cells #[.int .i64 a0_0, .int .i64 a0_1, .int .i64 a0_2, .int .i64 a0_3, .int .i64 a0_4, .int .i64 a0_5, .int .i64 a0_6, .int .i64 a0_7] 23 (0, 0)) (by (with_reducible repeat (first | refine blk_drewN ?_ _ | refine blk_drew ?_ | refine blk_alloc ?_ _)); exact BK501.out) hb)
               have n2_ := Aside0.mk (blk_below (g := gb507) (o := .cells #[.int .i64 x508000_2, .int .i64 x508001_2, .int .i64 x508002_2, .int .i64 x508003_2, .int .i64 x508004_2, .int .i64 x508005_2, .int .i64 x508006_2, .int .i64 x508007_2, .slice Ao43 x508008_2.length co43] 36 (0, 0)) (by (with_reducible repeat (first | refine blk_drewN ?_ _ | refine blk_drew ?_ | refine blk_alloc ?_ _)); exact BK507.out) hb)
               have n3_ := Aside0.mk (below_step (by repeat (first | (with_reducible first | exact HB.out | apply below_alloc | apply pw_below_drewN | apply below_drew1 | refine below_set ?_ GE501.out | refine below_set ?_ GE507.out) | exact HB.out)) hb)
               have n4_ := Aside0.mk (hbox)
               have n5_ := Aside0.mk ((by rw [hg]; exact (below_size (by repeat (first | (with_reducible first | exact HB.out | apply below_alloc | apply pw_below_drewN | apply below_drew1 | refine below_set ?_ GE501.out | refine below_set ?_ GE507.out) | exact HB.out))) : w.heap.size ≤ gb524))
               have n6_ := Aside0.mk ((by rw [hg]; exact (below_size (by repeat (first | (with_reducible first | exact HB.out | apply below_alloc | apply pw_below_drewN | apply below_drew1 | refine below_set ?_ GE501.out | refine below_set ?_ GE507.out) | exact HB.out))) : w.heap.size ≤ gb524))
               have n7_ := Aside0.mk ((by rw [hg]; exact Nat.ne_of_lt (blk_lt (g := gb501) (o := .cells #[.int .i64 a0_0, .int .i64 a0_1, .int .i64 a0_2, .int .i64 a0_3, .int .i64 a0_4, .int .i64 a0_5, .int .i64 a0_6, .int .i64 a0_7] 23 (0, 0)) (by (with_reducible repeat (first | refine blk_drewN ?_ _ | refine blk_drew ?_ | refine blk_alloc ?_ _)); exact BK501.out)) : gb501 ≠ gb524))
               have n8_ := Aside0.mk ((by rw [hg]; exact Nat.ne_of_gt (blk_lt (g := gb501) (o := .cells #[.int .i64 a0_0, .int .i64 a0_1, .int .i64 a0_2, .int .i64 a0_3, .int .i64 a0_4, .int .i64 a0_5, .int .i64 a0_6, .int .i64 a0_7] 23 (0, 0)) (by (with_reducible repeat (first | refine blk_drewN ?_ _ | refine blk_drew ?_ | refine blk_alloc ?_ _)); exact BK501.out)) : gb524 ≠ gb501))
               have n9_ := Aside0.mk ((by rw [hg]; exact Nat.ne_of_lt (blk_lt (g := gb507) (o := .cells #[.int .i64 x508000_2, .int .i64 x508001_2, .int .i64 x508002_2, .int .i64 x508003_2, .int .i64 x508004_2, .int .i64 x508005_2, .int .i64 x508006_2, .int .i64 x508007_2, .slice Ao43 x508008_2.length co43] 36 (0, 0)) (by (with_reducible repeat (first | refine blk_drewN ?_ _ | refine blk_drew ?_ | refine blk_alloc ?_ _)); exact BK507.out)) : gb507 ≠ gb524))
               have n10_ := Aside0.mk ((by rw [hg]; exact Nat.ne_of_gt (blk_lt (g := gb507) (o := .cells #[.int .i64 x508000_2, .int .i64 x508001_2, .int .i64 x508002_2, .int .i64 x508003_2, .int .i64 x508004_2, .int .i64 x508005_2, .int .i64 x508006_2, .int .i64 x508007_2, .slice Ao43 x508008_2.length co43] 36 (0, 0)) (by (with_reducible repeat (first | refine blk_drewN ?_ _ | refine blk_drew ?_ | refine blk_alloc ?_ _)); exact BK507.out)) : gb524 ≠ gb507))
               clear HO_508008
               clear BK501
               clear BK507
               clear HB
               have HO_508008 := n0_
               have BK501 := n1_
               have BK507 := n2_
               have HB := n3_
               have BK524 := n4_
               have GW524 := n5_
               have GE524 := n6_
               have NB501_524 := n7_
               have NB524_501 := n8_
               have NB507_524 := n9_
               have NB524_507 := n10_
               clear n0_ n1_ n2_ n3_ n4_ n5_ n6_ n7_ n8_ n9_ n10_
               clear hb hbox hg
               refine hK.out _ _ ⟨(blk_cell BK507.out 0).trans rfl, (blk_cell BK507.out 1).trans rfl, (blk_cell BK507.out 2).trans rfl, (blk_cell BK507.out 3).trans rfl, (blk_cell BK507.out 4).trans rfl, (blk_cell BK507.out 5).trans rfl, (blk_cell BK507.out 6).trans rfl, (blk_cell BK507.out 7).trans rfl, (blk_cell BK507.out 8).trans rfl, ((HB.out.cell (World.block_lt_of_cell? w _ hw511_0)).trans hw511_0), ((HB.out.cell (World.block_lt_of_cell? w _ hw511_1)).trans hw511_1), ((HB.out.cell (World.block_lt_of_cell? w _ hw511_2)).trans hw511_2), ((HB.out.cell (World.block_lt_of_cell? w _ hw511_3)).trans hw511_3), ((HB.out.cell (World.block_lt_of_cell? w _ hw511_4)).trans hw511_4), ((HB.out.cell (World.block_lt_of_cell? w _ hw511_5)).trans hw511_5), ((HB.out.cell (World.block_lt_of_cell? w _ hw511_6)).trans hw511_6), ((HB.out.cell (World.block_lt_of_cell? w _ hw511_7)).trans hw511_7), ((HB.out.cell (World.block_lt_of_cell? w _ hw511_8)).trans hw511_8), ((HB.out.cell (World.block_lt_of_cell? w _ hw511_9)).trans hw511_9), ((HB.out.cell (World.block_lt_of_cell? w _ hw511_10)).trans hw511_10)⟩ (fun hHeld => ?_)
               clear hK K
               refine norm_ (a' := ?_) ?_ ?_
               rotate_left
               ·
                show Act.put _ (some 9) _ = _
                simp only [Act.put, List.setIfInBounds_toArray, List.set_cons_zero, List.set_cons_succ, i64_w, i32_w]
                rfl
               refine one_ (i := 5) (N := some 65) #[true, true, true, true, true, true, false, false, false, true, false, false] rfl rfl (one_of HT_.out (by kernel_rfl)) (by decide) (fun K hK => ?_)
               refine goes_ Try.func23 (by kernel_rfl) rfl #[.agg #[.int .i64 x508000_2, .int .i64 x508001_2, .int .i64 x508002_2, .int .i64 x508003_2, .int .i64 x508004_2, .int .i64 x508005_2, .int .i64 x508006_2, .int .i64 x508007_2, .slice Ao43 x508008_2.length co43], .agg #[.int .i64 ((rd_T41 l1 x8_2).f0), .string ((rd_T41 l1 x8_2).f1), .string ((rd_T41 l1 x8_2).f2), .string ((rd_T41 l1 x8_2).f3), .int .i64 ((rd_T41 l1 x8_2).f4), .int .i64 ((rd_T41 l1 x8_2).f5), .int .i64 ((rd_T41 l1 x8_2).f6), .int .i64 ((rd_T41 l1 x8_2).f7), .bool ((rd_T41 l1 x8_2).f8), .slice A511_9 ((rd_T41 l1 x8_2).f9).length c511_9, .slice A511_10 ((rd_T41 l1 x8_2).f10).length c511_10]] (by rfl) rfl rfl (by (try simp only [List.map_toArray, List.map_cons, List.map_nil]); first | done | rfl | (simp only [List.length_drop, List.length_take]; rfl)) ?_
               with_reducible refine (rate_Push.calls kj31 x508000_2 x508001_2 x508002_2 x508003_2 x508004_2 x508005_2 x508006_2 x508007_2 (fun k_ => ((k_ ≠ gb501 ∧ k_ ≠ gb507) ∧ k_ ≠ gb524)) _ _ x508008_2 ((rd_T41 l1 x8_2).f0) ((rd_T41 l1 x8_2).f1) ((rd_T41 l1 x8_2).f2) ((rd_T41 l1 x8_2).f3) ((rd_T41 l1 x8_2).f4) ((rd_T41 l1 x8_2).f5) ((rd_T41 l1 x8_2).f6) ((rd_T41 l1 x8_2).f7) ((rd_T41 l1 x8_2).f8) (fun k_ => k_ < w.heap.size) _ _ ((rd_T41 l1 x8_2).f9) (fun k_ => k_ < w.heap.size) _ _ ((rd_T41 l1 x8_2).f10) t512 t513 t514 t515 t516 t517 t518 t519 t520 t523 _ ?side1 ?side2 ?side3 A40.out).mono ?_
               (case side1 => exact HO_508008.out)
               (case side2 => exact Kd.V_mk HC511_9.out (Kd.F_below (Kd.C_F k69_heap HR511_9.out) (by repeat (first | (with_reducible first | exact HB.out | apply below_alloc | apply pw_below_drewN | apply below_drew1 | refine below_set ?_ GE501.out | refine below_set ?_ GE507.out | refine below_set ?_ GE524.out) | exact HB.out))))
               (case side3 => exact Kd.V_mk HC511_10.out (Kd.F_below (Kd.C_F (Kd.heap_int .i64) HR511_10.out) (by repeat (first | (with_reducible first | exact HB.out | apply below_alloc | apply pw_below_drewN | apply below_drew1 | refine below_set ?_ GE501.out | refine below_set ?_ GE507.out | refine below_set ?_ GE524.out) | exact HB.out))))
               rintro e w46 ⟨v521, rfl, ho0, hb⟩
               refine ⟨_, rfl, ?_⟩
               have n0_ := Aside0.mk (Kd.V_below (by (with_reducible repeat (first | apply Kd.V_alloc | apply Kd.V_drewN | apply Kd.V_drew)); exact HO_508008.out) hb)
               have n1_ := Aside0.mk (Kd.V_lower (Kd.V_mono (ok' := fun k_ => k_ ≠ gb501 ∧ k_ ≠ gb507 ∧ k_ ≠ gb524) ho0 (fun k_ hk_ => ⟨Or.elim hk_ (fun hs_ => Or.elim hs_ (fun hs_ => hs_.1.1) (fun hs_ => Or.elim hs_ (fun hs_ => fun e_ => Nat.not_le.2 hs_ (by rw [e_]; exact GW501.out)) (fun hs_ => fun e_ => Nat.not_le.2 hs_ (by rw [e_]; exact GW501.out)))) (fun hn_ => (Kd.freshB (g := gb501) (o := .cells #[.int .i64 a0_0, .int .i64 a0_1, .int .i64 a0_2, .int .i64 a0_3, .int .i64 a0_4, .int .i64 a0_5, .int .i64 a0_6, .int .i64 a0_7] 23 (0, 0)) (by (with_reducible repeat (first | refine blk_drewN ?_ _ | refine blk_drew ?_ | refine blk_alloc ?_ _)); exact BK501.out) k_ hn_)), Or.elim hk_ (fun hs_ => Or.elim hs_ (fun hs_ => hs_.1.2) (fun hs_ => Or.elim hs_ (fun hs_ => fun e_ => Nat.not_le.2 hs_ (by rw [e_]; exact GW507.out)) (fun hs_ => fun e_ => Nat.not_le.2 hs_ (by rw [e_]; exact GW507.out)))) (fun hn_ => (Kd.freshB (g := gb507) (o := .cells #[.int .i64 x508000_2, .int .i64 x508001_2, .int .i64 x508002_2, .int .i64 x508003_2, .int .i64 x508004_2, .int .i64 x508005_2, .int .i64 x508006_2, .int .i64 x508007_2, .slice Ao43 x508008_2.length co43] 36 (0, 0)) (by (with_reducible repeat (first | refine blk_drewN ?_ _ | refine blk_drew ?_ | refine blk_alloc ?_ _)); exact BK507.out) k_ hn_)), Or.elim hk_ (fun hs_ => Or.elim hs_ (fun hs_ => hs_.2) (fun hs_ => Or.elim hs_ (fun hs_ => fun e_ => Nat.not_le.2 hs_ (by rw [e_]; exact GW524.out)) (fun hs_ => fun e_ => Nat.not_le.2 hs_ (by rw [e_]; exact GW524.out)))) (fun hn_ => (Kd.freshB (g := gb524) (o := .cells #[.int .i64 0, .int .i64 0, .int .i64 0, .int .i64 0, .int .i64 0, .int .i64 0, .int .i64 0, .int .i64 0, .slice none 0 0] 36 (0, 0)) (by (with_reducible repeat (first | refine blk_drewN ?_ _ | refine blk_drew ?_ | refine blk_alloc ?_ _)); exact BK524.out) k_ hn_))⟩)) (below_size (by repeat (first | (with_reducible first | exact HB.out | apply below_alloc | apply pw_below_drewN | apply below_drew1 | refine below_set ?_ GE501.out | refine below_set ?_ GE507.out | refine below_set ?_ GE524.out) | exact HB.out))))
               have n2_ := Aside0.mk (blk_below (g := gb501) (o := .cells #[.int .i64 a0_0, .int .i64 a0_1, .int .i64 a0_2, .int .i64 a0_3, .int .i64 a0_4, .int .i64 a0_5, .int .i64 a0_6, .int .i64 a0_7] 23 (0, 0)) (by (with_reducible repeat (first | refine blk_drewN ?_ _ | refine blk_drew ?_ | refine blk_alloc ?_ _)); exact BK501.out) hb)
               have n3_ := Aside0.mk (blk_below (g := gb507) (o := .cells #[.int .i64 x508000_2, .int .i64 x508001_2, .int .i64 x508002_2, .int .i64 x508003_2, .int .i64 x508004_2, .int .i64 x508005_2, .int .i64 x508006_2, .int .i64 x508007_2, .slice Ao43 x508008_2.length co43] 36 (0, 0)) (by (with_reducible repeat (first | refine blk_drewN ?_ _ | refine blk_drew ?_ | refine blk_alloc ?_ _)); exact BK507.out) hb)
               have n4_ := Aside0.mk (blk_below (g := gb524) (o := .cells #[.int .i64 0, .int .i64 0, .int .i64 0, .int .i64 0, .int .i64 0, .int .i64 0, .int .i64 0, .int .i64 0, .slice none 0 0] 36 (0, 0)) (by (with_reducible repeat (first | refine blk_drewN ?_ _ | refine blk_drew ?_ | refine blk_alloc ?_ _)); exact BK524.out) hb)
               have n5_ := Aside0.mk (below_step (by repeat (first | (with_reducible first | exact HB.out | apply below_alloc | apply pw_below_drewN | apply below_drew1 | refine below_set ?_ GE501.out | refine below_set ?_ GE507.out | refine below_set ?_ GE524.out) | exact HB.out)) hb)
               clear HO_508008
               clear BK501
               clear BK507
               clear BK524
               clear HB
               have HO_508008 := n0_
               have HO522 := n1_
               have BK501 := n2_
               have BK507 := n3_
               have BK524 := n4_
               have HB := n5_
               clear n0_ n1_ n2_ n3_ n4_ n5_
               (try clear hb)
               (try clear hb2)
               (try clear hk)
               (try clear hi)
               (try clear ho0)
               refine hK.out _ _ ⟨(blk_cell BK507.out 0).trans rfl, (blk_cell BK507.out 1).trans rfl, (blk_cell BK507.out 2).trans rfl, (blk_cell BK507.out 3).trans rfl, (blk_cell BK507.out 4).trans rfl, (blk_cell BK507.out 5).trans rfl, (blk_cell BK507.out 6).trans rfl, (blk_cell BK507.out 7).trans rfl, (blk_cell BK507.out 8).trans rfl, ((HB.out.cell (World.block_lt_of_cell? w _ hw511_0)).trans hw511_0), ((HB.out.cell (World.block_lt_of_cell? w _ hw511_1)).trans hw511_1), ((HB.out.cell (World.block_lt_of_cell? w _ hw511_2)).trans hw511_2), ((HB.out.cell (World.block_lt_of_cell? w _ hw511_3)).trans hw511_3), ((HB.out.cell (World.block_lt_of_cell? w _ hw511_4)).trans hw511_4), ((HB.out.cell (World.block_lt_of_cell? w _ hw511_5)).trans hw511_5), ((HB.out.cell (World.block_lt_of_cell? w _ hw511_6)).trans hw511_6), ((HB.out.cell (World.block_lt_of_cell? w _ hw511_7)).trans hw511_7), ((HB.out.cell (World.block_lt_of_cell? w _ hw511_8)).trans hw511_8), ((HB.out.cell (World.block_lt_of_cell? w _ hw511_9)).trans hw511_9), ((HB.out.cell (World.block_lt_of_cell? w _ hw511_10)).trans hw511_10)⟩ (fun hHeld => ?_)
               clear hK K
               refine norm_ (a' := ?_) ?_ ?_
               rotate_left
               ·
                show Act.put _ (some 65) _ = _
                simp only [Act.put, List.setIfInBounds_toArray, List.set_cons_zero, List.set_cons_succ, i64_w, i32_w]
                rfl
               refine pure_ (i := 6) (N := some 59) (v := ?_) (a' := ?_) #[true, true, true, true, true, true, true, false, false, true, false, false] rfl rfl (any_of HT_.out (by kernel_rfl)) (fun _ _ _ h => h) (Or.inl ⟨by rfl, ?_⟩) ?_ ?_
               rotate_left
               ·
                intro w'
                go_simp
                with_reducible rfl
               rotate_left
               ·
                simp only [Act.put, List.setIfInBounds_toArray, List.set_cons_zero, List.set_cons_succ, i64_w, i32_w]
                rfl
               refine pure_ (i := 7) (N := some 66) (v := ?_) (a' := ?_) #[true, true, true, true, true, true, true, true, false, true, false, false] rfl rfl (any_of HT_.out (by kernel_rfl)) (fun _ _ _ h => h) (Or.inl ⟨by rfl, ?_⟩) ?_ ?_
               rotate_left
               ·
                intro w'
                go_simp
                with_reducible rfl
               rotate_left
               ·
                simp only [Act.put, List.setIfInBounds_toArray, List.set_cons_zero, List.set_cons_succ, i64_w, i32_w]
                rfl
               refine pure_ (i := 8) (N := some 67) (v := ?_) (a' := ?_) #[true, true, true, true, true, true, true, true, true, true, false, false] rfl rfl (any_of HT_.out (by kernel_rfl)) (fun _ _ _ h => h) (Or.inl ⟨by rfl, ?_⟩) ?_ ?_
               rotate_left
               ·
                intro w'
                go_simp
                with_reducible rfl
               rotate_left
               ·
                simp only [Act.put, List.setIfInBounds_toArray, List.set_cons_zero, List.set_cons_succ, i64_w, i32_w]
                rfl
               exact norm_ (by simp only [putAll, Act.put, List.setIfInBounds_toArray, List.set_cons_zero, List.set_cons_succ]) (hCont (v521, gb524) _ ⟨hHeld, (by (with_reducible repeat (first | apply Kd.V_alloc | apply Kd.V_drewN | apply Kd.V_drew)); exact HO522.out), (by (with_reducible repeat (first | apply Kd.V_alloc | apply Kd.V_drewN | apply Kd.V_drew)); exact Kd.V_mono HO_508008.out (fun _ hk => ⟨hk.1.1, ⟨hk.1.2, hk.2⟩⟩)), (by (with_reducible repeat (first | refine blk_drewN ?_ _ | refine blk_drew ?_ | refine blk_alloc ?_ _)); exact BK501.out), (by (with_reducible repeat (first | refine blk_drewN ?_ _ | refine blk_drew ?_ | refine blk_alloc ?_ _)); exact BK507.out), (by (with_reducible repeat (first | refine blk_drewN ?_ _ | refine blk_drew ?_ | refine blk_alloc ?_ _)); exact BK524.out), GW524.out, GE524.out, NB501_524.out, NB524_501.out, NB507_524.out, NB524_507.out, (by repeat (first | (with_reducible first | exact HB.out | apply below_alloc | apply pw_below_drewN | apply below_drew1 | refine below_set ?_ GE501.out | refine below_set ?_ GE507.out | refine below_set ?_ GE524.out) | exact HB.out))⟩)
             rintro ⟨v521, gb524⟩ w47 ⟨hS_, h0_, h1_, h2_, h3_, h4_, h5_, h6_, h7_, h8_, h9_, h10_, h11_⟩
             have n0_ : Aside0 (Kd.V k41 41 w47 w.heap.size (fun k_ => k_ ≠ gb501 ∧ k_ ≠ gb507 ∧ k_ ≠ gb524) v521 t520) := ⟨h0_⟩
             have n1_ : Aside0 (Kd.V k41 41 w47 w.heap.size (fun k_ => k_ ≠ gb501 ∧ k_ ≠ gb507 ∧ k_ ≠ gb524) (.slice Ao43 x508008_2.length co43) x508008_2) := ⟨h1_⟩
             have n2_ : Aside0 (w47.heap[gb501]? = some (.cells #[.int .i64 a0_0, .int .i64 a0_1, .int .i64 a0_2, .int .i64 a0_3, .int .i64 a0_4, .int .i64 a0_5, .int .i64 a0_6, .int .i64 a0_7] 23 (0, 0))) := ⟨h2_⟩
             have n3_ : Aside0 (w47.heap[gb507]? = some (.cells #[.int .i64 x508000_2, .int .i64 x508001_2, .int .i64 x508002_2, .int .i64 x508003_2, .int .i64 x508004_2, .int .i64 x508005_2, .int .i64 x508006_2, .int .i64 x508007_2, .slice Ao43 x508008_2.length co43] 36 (0, 0))) := ⟨h3_⟩
             have n4_ : Aside0 (w47.heap[gb524]? = some (.cells #[.int .i64 0, .int .i64 0, .int .i64 0, .int .i64 0, .int .i64 0, .int .i64 0, .int .i64 0, .int .i64 0, .slice none 0 0] 36 (0, 0))) := ⟨h4_⟩
             have n5_ : Aside0 (w.heap.size ≤ gb524) := ⟨h5_⟩
             have n6_ : Aside0 (w.heap.size ≤ gb524) := ⟨h6_⟩
             have n7_ : Aside0 (gb501 ≠ gb524) := ⟨h7_⟩
             have n8_ : Aside0 (gb524 ≠ gb501) := ⟨h8_⟩
             have n9_ : Aside0 (gb507 ≠ gb524) := ⟨h9_⟩
             have n10_ : Aside0 (gb524 ≠ gb507) := ⟨h10_⟩
             have n11_ : Aside0 (Below w.heap.size w w47) := ⟨h11_⟩
             clear HO_508008
             clear BK501
             clear BK507
             clear HB
             clear h0_ h1_ h2_ h3_ h4_ h5_ h6_ h7_ h8_ h9_ h10_ h11_
             have HO522 := n0_
             have HO_508008 := n1_
             have BK501 := n2_
             have BK507 := n3_
             have BK524 := n4_
             have GW524 := n5_
             have GE524 := n6_
             have NB501_524 := n7_
             have NB524_501 := n8_
             have NB507_524 := n9_
             have NB524_507 := n10_
             have HB := n11_
             clear n0_ n1_ n2_ n3_ n4_ n5_ n6_ n7_ n8_ n9_ n10_ n11_
             have hHeld : w47.cell? ⟨gb507, 0, none⟩ = some (.int .i64 x508000_2) ∧ w47.cell? ⟨gb507, 1, none⟩ = some (.int .i64 x508001_2) ∧ w47.cell? ⟨gb507, 2, none⟩ = some (.int .i64 x508002_2) ∧ w47.cell? ⟨gb507, 3, none⟩ = some (.int .i64 x508003_2) ∧ w47.cell? ⟨gb507, 4, none⟩ = some (.int .i64 x508004_2) ∧ w47.cell? ⟨gb507, 5, none⟩ = some (.int .i64 x508005_2) ∧ w47.cell? ⟨gb507, 6, none⟩ = some (.int .i64 x508006_2) ∧ w47.cell? ⟨gb507, 7, none⟩ = some (.int .i64 x508007_2) ∧ w47.cell? ⟨gb507, 8, none⟩ = some (.slice Ao43 x508008_2.length co43) ∧ w47.cell? (ad511.add ((x8_2).toNat * 11)) = some (.int .i64 ((rd_T41 l1 x8_2).f0)) ∧ w47.cell? ⟨(ad511.add ((x8_2).toNat * 11)).block, (ad511.add ((x8_2).toNat * 11)).off + 1, none⟩ = some (.string ((rd_T41 l1 x8_2).f1)) ∧ w47.cell? ⟨(ad511.add ((x8_2).toNat * 11)).block, (ad511.add ((x8_2).toNat * 11)).off + 2, none⟩ = some (.string ((rd_T41 l1 x8_2).f2)) ∧ w47.cell? ⟨(ad511.add ((x8_2).toNat * 11)).block, (ad511.add ((x8_2).toNat * 11)).off + 3, none⟩ = some (.string ((rd_T41 l1 x8_2).f3)) ∧ w47.cell? ⟨(ad511.add ((x8_2).toNat * 11)).block, (ad511.add ((x8_2).toNat * 11)).off + 4, none⟩ = some (.int .i64 ((rd_T41 l1 x8_2).f4)) ∧ w47.cell? ⟨(ad511.add ((x8_2).toNat * 11)).block, (ad511.add ((x8_2).toNat * 11)).off + 5, none⟩ = some (.int .i64 ((rd_T41 l1 x8_2).f5)) ∧ w47.cell? ⟨(ad511.add ((x8_2).toNat * 11)).block, (ad511.add ((x8_2).toNat * 11)).off + 6, none⟩ = some (.int .i64 ((rd_T41 l1 x8_2).f6)) ∧ w47.cell? ⟨(ad511.add ((x8_2).toNat * 11)).block, (ad511.add ((x8_2).toNat * 11)).off + 7, none⟩ = some (.int .i64 ((rd_T41 l1 x8_2).f7)) ∧ w47.cell? ⟨(ad511.add ((x8_2).toNat * 11)).block, (ad511.add ((x8_2).toNat * 11)).off + 8, none⟩ = some (.bool ((rd_T41 l1 x8_2).f8)) ∧ w47.cell? ⟨(ad511.add ((x8_2).toNat * 11)).block, (ad511.add ((x8_2).toNat * 11)).off + 9, none⟩ = some (.slice A511_9 ((rd_T41 l1 x8_2).f9).length c511_9) ∧ w47.cell? ⟨(ad511.add ((x8_2).toNat * 11)).block, (ad511.add ((x8_2).toNat * 11)).off + 10, none⟩ = some (.slice A511_10 ((rd_T41 l1 x8_2).f10).length c511_10) := hS_
             obtain ⟨Ao56, co56, eo56⟩ := Kd.V_slice HO522.out
             (first | subst eo56 | (injection eo56 with f1_ f2_ f3_; have f4_ := f1_.symm; have f5_ := f3_.symm; clear f1_ f2_ f3_; subst f4_; subst f5_))
             refine norm_ (a' := ?_) ?_ ?_
             rotate_left
             ·
              simp only [putAll, Act.put, List.setIfInBounds_toArray, List.set_cons_zero, List.set_cons_succ]
              rfl
             refine one_ (i := 10) (N := none) #[true, true, true, true, true, true, true, true, true, true, true, false] rfl rfl (one_of HT_.out (by kernel_rfl)) (by decide) (fun K hK => ?_)
             have hs48 : w47.cell? ⟨gb524, 0, none⟩ = some (.int .i64 0) := (blk_cell BK524.out 0).trans rfl
             have hfs48 := blk_frozen BK524.out 0
             have hns48_0 := NB501_524.out
             have hns48_1 := NB507_524.out
             have hms48_0 := NB524_501.out
             have hms48_1 := NB524_507.out
             have hs49 : w47.cell? ⟨gb524, 1, none⟩ = some (.int .i64 0) := (blk_cell BK524.out 1).trans rfl
             have hfs49 := blk_frozen BK524.out 1
             have hns49_0 := NB501_524.out
             have hns49_1 := NB507_524.out
             have hms49_0 := NB524_501.out
             have hms49_1 := NB524_507.out
             have hs50 : w47.cell? ⟨gb524, 2, none⟩ = some (.int .i64 0) := (blk_cell BK524.out 2).trans rfl
             have hfs50 := blk_frozen BK524.out 2
             have hns50_0 := NB501_524.out
             have hns50_1 := NB507_524.out
             have hms50_0 := NB524_501.out
             have hms50_1 := NB524_507.out
             have hs51 : w47.cell? ⟨gb524, 3, none⟩ = some (.int .i64 0) := (blk_cell BK524.out 3).trans rfl
             have hfs51 := blk_frozen BK524.out 3
             have hns51_0 := NB501_524.out
             have hns51_1 := NB507_524.out
             have hms51_0 := NB524_501.out
             have hms51_1 := NB524_507.out
             have hs52 : w47.cell? ⟨gb524, 4, none⟩ = some (.int .i64 0) := (blk_cell BK524.out 4).trans rfl
             have hfs52 := blk_frozen BK524.out 4
             have hns52_0 := NB501_524.out
             have hns52_1 := NB507_524.out
             have hms52_0 := NB524_501.out
             have hms52_1 := NB524_507.out
             have hs53 : w47.cell? ⟨gb524, 5, none⟩ = some (.int .i64 0) := (blk_cell BK524.out 5).trans rfl
             have hfs53 := blk_frozen BK524.out 5
             have hns53_0 := NB501_524.out
             have hns53_1 := NB507_524.out
             have hms53_0 := NB524_501.out
             have hms53_1 := NB524_507.out
             have hs54 : w47.cell? ⟨gb524, 6, none⟩ = some (.int .i64 0) := (blk_cell BK524.out 6).trans rfl
             have hfs54 := blk_frozen BK524.out 6
             have hns54_0 := NB501_524.out
             have hns54_1 := NB507_524.out
             have hms54_0 := NB524_501.out
             have hms54_1 := NB524_507.out
             have hs55 : w47.cell? ⟨gb524, 7, none⟩ = some (.int .i64 0) := (blk_cell BK524.out 7).trans rfl
             have hfs55 := blk_frozen BK524.out 7
             have hns55_0 := NB501_524.out
             have hns55_1 := NB507_524.out
             have hms55_0 := NB524_501.out
             have hms55_1 := NB524_507.out
             have hs57 : w47.cell? ⟨gb524, 8, none⟩ = some (.slice none 0 0) := (blk_cell BK524.out 8).trans rfl
             have hfs57 := blk_frozen BK524.out 8
             have hns57_0 := NB501_524.out
             have hns57_1 := NB507_524.out
             have hms57_0 := NB524_501.out
             have hms57_1 := NB524_507.out
             refine skip_ (w1 := ?_) (by rfl) rfl ?_ ?_
             rotate_left
             ·
              go_simp
              rfl
             refine hK.out _ _ ⟨((far9_ (g := gb524) NB507_524.out).trans (hHeld.1)), ((far9_ (g := gb524) NB507_524.out).trans (hHeld.2.1)), ((far9_ (g := gb524) NB507_524.out).trans (hHeld.2.2.1)), ((far9_ (g := gb524) NB507_524.out).trans (hHeld.2.2.2.1)), ((far9_ (g := gb524) NB507_524.out).trans (hHeld.2.2.2.2.1)), ((far9_ (g := gb524) NB507_524.out).trans (hHeld.2.2.2.2.2.1)), ((far9_ (g := gb524) NB507_524.out).trans (hHeld.2.2.2.2.2.2.1)), ((far9_ (g := gb524) NB507_524.out).trans (hHeld.2.2.2.2.2.2.2.1)), ((far9_ (g := gb524) NB507_524.out).trans (hHeld.2.2.2.2.2.2.2.2.1)), ((far9_ (g := gb524) (by first | exact Nat.ne_of_lt (Nat.lt_of_lt_of_le (by have := World.block_lt_of_cell? _ _ hw511_0; first | rwa [add_block] at this | exact this) GW524.out) | (rw [add_block]; exact Nat.ne_of_lt (Nat.lt_of_lt_of_le (by have := World.block_lt_of_cell? _ _ hw511_0; first | rwa [add_block] at this | exact this) GW524.out)) | (show (Addr.add _ _).block ≠ _; rw [add_block]; exact Nat.ne_of_lt (Nat.lt_of_lt_of_le (by have := World.block_lt_of_cell? _ _ hw511_0; first | rwa [add_block] at this | exact this) GW524.out)) | (dsimp only; exact Nat.ne_of_lt (Nat.lt_of_lt_of_le (by have := World.block_lt_of_cell? _ _ hw511_0; first | rwa [add_block] at this | exact this) GW524.out)))).trans (hHeld.2.2.2.2.2.2.2.2.2.1)), ((far9_ (g := gb524) (by first | exact Nat.ne_of_lt (Nat.lt_of_lt_of_le (by have := World.block_lt_of_cell? _ _ hw511_1; first | rwa [add_block] at this | exact this) GW524.out) | (rw [add_block]; exact Nat.ne_of_lt (Nat.lt_of_lt_of_le (by have := World.block_lt_of_cell? _ _ hw511_1; first | rwa [add_block] at this | exact this) GW524.out)) | (show (Addr.add _ _).block ≠ _; rw [add_block]; exact Nat.ne_of_lt (Nat.lt_of_lt_of_le (by have := World.block_lt_of_cell? _ _ hw511_1; first | rwa [add_block] at this | exact this) GW524.out)) | (dsimp only; exact Nat.ne_of_lt (Nat.lt_of_lt_of_le (by have := World.block_lt_of_cell? _ _ hw511_1; first | rwa [add_block] at this | exact this) GW524.out)))).trans (hHeld.2.2.2.2.2.2.2.2.2.2.1)), ((far9_ (g := gb524) (by first | exact Nat.ne_of_lt (Nat.lt_of_lt_of_le (by have := World.block_lt_of_cell? _ _ hw511_2; first | rwa [add_block] at this | exact this) GW524.out) | (rw [add_block]; exact Nat.ne_of_lt (Nat.lt_of_lt_of_le (by have := World.block_lt_of_cell? _ _ hw511_2; first | rwa [add_block] at this | exact this) GW524.out)) | (show (Addr.add _ _).block ≠ _; rw [add_block]; exact Nat.ne_of_lt (Nat.lt_of_lt_of_le (by have := World.block_lt_of_cell? _ _ hw511_2; first | rwa [add_block] at this | exact this) GW524.out)) | (dsimp only; exact Nat.ne_of_lt (Nat.lt_of_lt_of_le (by have := World.block_lt_of_cell? _ _ hw511_2; first | rwa [add_block] at this | exact this) GW524.out)))).trans (hHeld.2.2.2.2.2.2.2.2.2.2.2.1)), ((far9_ (g := gb524) (by first | exact Nat.ne_of_lt (Nat.lt_of_lt_of_le (by have := World.block_lt_of_cell? _ _ hw511_3; first | rwa [add_block] at this | exact this) GW524.out) | (rw [add_block]; exact Nat.ne_of_lt (Nat.lt_of_lt_of_le (by have := World.block_lt_of_cell? _ _ hw511_3; first | rwa [add_block] at this | exact this) GW524.out)) | (show (Addr.add _ _).block ≠ _; rw [add_block]; exact Nat.ne_of_lt (Nat.lt_of_lt_of_le (by have := World.block_lt_of_cell? _ _ hw511_3; first | rwa [add_block] at this | exact this) GW524.out)) | (dsimp only; exact Nat.ne_of_lt (Nat.lt_of_lt_of_le (by have := World.block_lt_of_cell? _ _ hw511_3; first | rwa [add_block] at this | exact this) GW524.out)))).trans (hHeld.2.2.2.2.2.2.2.2.2.2.2.2.1)), ((far9_ (g := gb524) (by first | exact Nat.ne_of_lt (Nat.lt_of_lt_of_le (by have := World.block_lt_of_cell? _ _ hw511_4; first | rwa [add_block] at this | exact this) GW524.out) | (rw [add_block]; exact Nat.ne_of_lt (Nat.lt_of_lt_of_le (by have := World.block_lt_of_cell? _ _ hw511_4; first | rwa [add_block] at this | exact this) GW524.out)) | (show (Addr.add _ _).block ≠ _; rw [add_block]; exact Nat.ne_of_lt (Nat.lt_of_lt_of_le (by have := World.block_lt_of_cell? _ _ hw511_4; first | rwa [add_block] at this | exact this) GW524.out)) | (dsimp only; exact Nat.ne_of_lt (Nat.lt_of_lt_of_le (by have := World.block_lt_of_cell? _ _ hw511_4; first | rwa [add_block] at this | exact this) GW524.out)))).trans (hHeld.2.2.2.2.2.2.2.2.2.2.2.2.2.1)), ((far9_ (g := gb524) (by first | exact Nat.ne_of_lt (Nat.lt_of_lt_of_le (by have := World.block_lt_of_cell? _ _ hw511_5; first | rwa [add_block] at this | exact this) GW524.out) | (rw [add_block]; exact Nat.ne_of_lt (Nat.lt_of_lt_of_le (by have := World.block_lt_of_cell? _ _ hw511_5; first | rwa [add_block] at this | exact this) GW524.out)) | (show (Addr.add _ _).block ≠ _; rw [add_block]; exact Nat.ne_of_lt (Nat.lt_of_lt_of_le (by have := World.block_lt_of_cell? _ _ hw511_5; first | rwa [add_block] at this | exact this) GW524.out)) | (dsimp only; exact Nat.ne_of_lt (Nat.lt_of_lt_of_le (by have := World.block_lt_of_cell? _ _ hw511_5; first | rwa [add_block] at this | exact this) GW524.out)))).trans (hHeld.2.2.2.2.2.2.2.2.2.2.2.2.2.2.1)), ((far9_ (g := gb524) (by first | exact Nat.ne_of_lt (Nat.lt_of_lt_of_le (by have := World.block_lt_of_cell? _ _ hw511_6; first | rwa [add_block] at this | exact this) GW524.out) | (rw [add_block]; exact Nat.ne_of_lt (Nat.lt_of_lt_of_le (by have := World.block_lt_of_cell? _ _ hw511_6; first | rwa [add_block] at this | exact this) GW524.out)) | (show (Addr.add _ _).block ≠ _; rw [add_block]; exact Nat.ne_of_lt (Nat.lt_of_lt_of_le (by have := World.block_lt_of_cell? _ _ hw511_6; first | rwa [add_block] at this | exact this) GW524.out)) | (dsimp only; exact Nat.ne_of_lt (Nat.lt_of_lt_of_le (by have := World.block_lt_of_cell? _ _ hw511_6; first | rwa [add_block] at this | exact this) GW524.out)))).trans (hHeld.2.2.2.2.2.2.2.2.2.2.2.2.2.2.2.1)), ((far9_ (g := gb524) (by first | exact Nat.ne_of_lt (Nat.lt_of_lt_of_le (by have := World.block_lt_of_cell? _ _ hw511_7; first | rwa [add_block] at this | exact this) GW524.out) | (rw [add_block]; exact Nat.ne_of_lt (Nat.lt_of_lt_of_le (by have := World.block_lt_of_cell? _ _ hw511_7; first | rwa [add_block] at this | exact this) GW524.out)) | (show (Addr.add _ _).block ≠ _; rw [add_block]; exact Nat.ne_of_lt (Nat.lt_of_lt_of_le (by have := World.block_lt_of_cell? _ _ hw511_7; first | rwa [add_block] at this | exact this) GW524.out)) | (dsimp only; exact Nat.ne_of_lt (Nat.lt_of_lt_of_le (by have := World.block_lt_of_cell? _ _ hw511_7; first | rwa [add_block] at this | exact this) GW524.out)))).trans (hHeld.2.2.2.2.2.2.2.2.2.2.2.2.2.2.2.2.1)), ((far9_ (g := gb524) (by first | exact Nat.ne_of_lt (Nat.lt_of_lt_of_le (by have := World.block_lt_of_cell? _ _ hw511_8; first | rwa [add_block] at this | exact this) GW524.out) | (rw [add_block]; exact Nat.ne_of_lt (Nat.lt_of_lt_of_le (by have := World.block_lt_of_cell? _ _ hw511_8; first | rwa [add_block] at this | exact this) GW524.out)) | (show (Addr.add _ _).block ≠ _; rw [add_block]; exact Nat.ne_of_lt (Nat.lt_of_lt_of_le (by have := World.block_lt_of_cell? _ _ hw511_8; first | rwa [add_block] at this | exact this) GW524.out)) | (dsimp only; exact Nat.ne_of_lt (Nat.lt_of_lt_of_le (by have := World.block_lt_of_cell? _ _ hw511_8; first | rwa [add_block] at this | exact this) GW524.out)))).trans (hHeld.2.2.2.2.2.2.2.2.2.2.2.2.2.2.2.2.2.1)), ((far9_ (g := gb524) (by first | exact Nat.ne_of_lt (Nat.lt_of_lt_of_le (by have := World.block_lt_of_cell? _ _ hw511_9; first | rwa [add_block] at this | exact this) GW524.out) | (rw [add_block]; exact Nat.ne_of_lt (Nat.lt_of_lt_of_le (by have := World.block_lt_of_cell? _ _ hw511_9; first | rwa [add_block] at this | exact this) GW524.out)) | (show (Addr.add _ _).block ≠ _; rw [add_block]; exact Nat.ne_of_lt (Nat.lt_of_lt_of_le (by have := World.block_lt_of_cell? _ _ hw511_9; first | rwa [add_block] at this | exact this) GW524.out)) | (dsimp only; exact Nat.ne_of_lt (Nat.lt_of_lt_of_le (by have := World.block_lt_of_cell? _ _ hw511_9; first | rwa [add_block] at this | exact this) GW524.out)))).trans (hHeld.2.2.2.2.2.2.2.2.2.2.2.2.2.2.2.2.2.2.1)), ((far9_ (g := gb524) (by first | exact Nat.ne_of_lt (Nat.lt_of_lt_of_le (by have := World.block_lt_of_cell? _ _ hw511_10; first | rwa [add_block] at this | exact this) GW524.out) | (rw [add_block]; exact Nat.ne_of_lt (Nat.lt_of_lt_of_le (by have := World.block_lt_of_cell? _ _ hw511_10; first | rwa [add_block] at this | exact this) GW524.out)) | (show (Addr.add _ _).block ≠ _; rw [add_block]; exact Nat.ne_of_lt (Nat.lt_of_lt_of_le (by have := World.block_lt_of_cell? _ _ hw511_10; first | rwa [add_block] at this | exact this) GW524.out)) | (dsimp only; exact Nat.ne_of_lt (Nat.lt_of_lt_of_le (by have := World.block_lt_of_cell? _ _ hw511_10; first | rwa [add_block] at this | exact this) GW524.out)))).trans (hHeld.2.2.2.2.2.2.2.2.2.2.2.2.2.2.2.2.2.2.2))⟩ (fun hHeld => ?_)
             clear hK K
             refine pure_ (i := 11) (N := some 10) (v := ?_) (a' := ?_) #[true, true, true, true, true, true, true, true, true, true, true, true] rfl rfl (any_of HT_.out (by kernel_rfl)) (fun _ _ _ h => h) (Or.inl ⟨by rfl, ?_⟩) ?_ ?_
             rotate_left
             ·
              intro w'
              go_simp
              with_reducible rfl
             rotate_left
             ·
              simp only [Act.put, List.setIfInBounds_toArray, List.set_cons_zero, List.set_cons_succ, i64_w, i32_w]
              rfl
             refine done_ (done_of HT_.out (by kernel_rfl)) ?_
             try go_wp2_with (first | ((with_reducible refine gate_callee (f := 9) rfl ?_); refine goesL_ (some 69) rfl rfl Try.func9 (by kernel_rfl) rfl #[.int .i64 t523] rfl (by (try simp only [List.map_toArray, List.map_cons, List.map_nil]); first | done | rfl | (simp only [List.length_drop, List.length_take]; rfl)) ?_; (with_reducible refine (wharflaw19_num.calls t523 t525 _ A41.out).mono ?_); rintro e w' ⟨rfl, ⟨nd, rfl⟩⟩; refine ⟨_, rfl, ?_⟩; have hnb58 := NB524_501.out; have hnc58 := NB501_524.out; have hnb59 := NB524_507.out; have hnc59 := NB507_524.out; have hcz60_0 : w47.cell? ⟨gb524, 0, none⟩ = some (.int .i64 0) := (blk_cell BK524.out 0).trans rfl; have hcz60_1 : w47.cell? ⟨gb524, 1, none⟩ = some (.int .i64 0) := (blk_cell BK524.out 1).trans rfl; have hcz60_2 : w47.cell? ⟨gb524, 2, none⟩ = some (.int .i64 0) := (blk_cell BK524.out 2).trans rfl; have hcz60_3 : w47.cell? ⟨gb524, 3, none⟩ = some (.int .i64 0) := (blk_cell BK524.out 3).trans rfl; have hcz60_4 : w47.cell? ⟨gb524, 4, none⟩ = some (.int .i64 0) := (blk_cell BK524.out 4).trans rfl; have hcz60_5 : w47.cell? ⟨gb524, 5, none⟩ = some (.int .i64 0) := (blk_cell BK524.out 5).trans rfl; have hcz60_6 : w47.cell? ⟨gb524, 6, none⟩ = some (.int .i64 0) := (blk_cell BK524.out 6).trans rfl; have hcz60_7 : w47.cell? ⟨gb524, 7, none⟩ = some (.int .i64 0) := (blk_cell BK524.out 7).trans rfl; have hcz60_8 : w47.cell? ⟨gb524, 8, none⟩ = some (.slice none 0 0) := (blk_cell BK524.out 8).trans rfl; have hfz60_0 := blk_frozen BK524.out 0; have hfz60_1 := blk_frozen BK524.out 1; have hfz60_2 := blk_frozen BK524.out 2; have hfz60_3 := blk_frozen BK524.out 3; have hfz60_4 := blk_frozen BK524.out 4; have hfz60_5 := blk_frozen BK524.out 5; have hfz60_6 := blk_frozen BK524.out 6; have hfz60_7 := blk_frozen BK524.out 7; have hfz60_8 := blk_frozen BK524.out 8; have hnb61 := NB507_501.out; have hnc61 := NB501_507.out; have hcz62_0 : w47.cell? ⟨gb507, 0, none⟩ = some (.int .i64 x508000_2) := (blk_cell BK507.out 0).trans rfl; have hcz62_1 : w47.cell? ⟨gb507, 1, none⟩ = some (.int .i64 x508001_2) := (blk_cell BK507.out 1).trans rfl; have hcz62_2 : w47.cell? ⟨gb507, 2, none⟩ = some (.int .i64 x508002_2) := (blk_cell BK507.out 2).trans rfl; have hcz62_3 : w47.cell? ⟨gb507, 3, none⟩ = some (.int .i64 x508003_2) := (blk_cell BK507.out 3).trans rfl; have hcz62_4 : w47.cell? ⟨gb507, 4, none⟩ = some (.int .i64 x508004_2) := (blk_cell BK507.out 4).trans rfl; have hcz62_5 : w47.cell? ⟨gb507, 5, none⟩ = some (.int .i64 x508005_2) := (blk_cell BK507.out 5).trans rfl; have hcz62_6 : w47.cell? ⟨gb507, 6, none⟩ = some (.int .i64 x508006_2) := (blk_cell BK507.out 6).trans rfl; have hcz62_7 : w47.cell? ⟨gb507, 7, none⟩ = some (.int .i64 x508007_2) := (blk_cell BK507.out 7).trans rfl; have hcz62_8 : w47.cell? ⟨gb507, 8, none⟩ = some (.slice Ao43 x508008_2.length co43) := (blk_cell BK507.out 8).trans rfl; have hfz62_0 := blk_frozen BK507.out 0; have hfz62_1 := blk_frozen BK507.out 1; have hfz62_2 := blk_frozen BK507.out 2; have hfz62_3 := blk_frozen BK507.out 3; have hfz62_4 := blk_frozen BK507.out 4; have hfz62_5 := blk_frozen BK507.out 5; have hfz62_6 := blk_frozen BK507.out 6; have hfz62_7 := blk_frozen BK507.out 7; have hfz62_8 := blk_frozen BK507.out 8))
             go_roundg kj31
             case measure => have := HJ3.out; have := HK2.out; have := HJ31.out; omega
             case rel => exact ⟨(wrap64 (x8_2 + 1)), (t512), (t513), (t514), (t515), (t516), (t517), (t518), (t519), (t520), (.slice Ao56 t520.length co56), (by first | rfl | (simp; done) | (simp [*]; done)), H', ⟨by have := HJ3.out; have := HK2.out; have := HJ31.out; omega⟩, ⟨by (with_reducible repeat (first | apply Kd.V_alloc | apply Kd.V_drewN | apply Kd.V_drew)); have zf610_ := Kd.V_mono (Kd.V_mono HO522.out (fun k_ hk => (⟨hk, hk.2.2⟩ : _ ∧ k_ ≠ gb524))) (fun k_ hk => (⟨hk, hk.1.2.1⟩ : _ ∧ k_ ≠ gb507)); exact Kd.V_mono ((V_thru7_ zf610_ (by intro zz_; repeat (first | with_reducible exact zz_ | with_reducible refine Kd.V_far ?_ (by first | exact (fun _ hk => hk.2) | exact (fun _ hk => hk.1.2)) _ | with_reducible refine Kd.V_drewN ?_ _ | with_reducible apply Kd.V_drew | with_reducible apply Kd.V_alloc)))) (fun _ hk => ⟨hk.1.1.1, hk.1.1.2.1⟩)⟩, ⟨by (with_reducible repeat (first | refine blk_drewN ?_ _ | refine blk_drew ?_ | refine blk_alloc ?_ _)); (iterate 9 (refine blk_far ?_ NB501_507.out _; (with_reducible repeat (first | refine blk_drewN ?_ _ | refine blk_drew ?_ | refine blk_alloc ?_ _)))); (iterate 9 (refine blk_far ?_ NB501_524.out _; (with_reducible repeat (first | refine blk_drewN ?_ _ | refine blk_drew ?_ | refine blk_alloc ?_ _)))); exact BK501.out⟩, ⟨by (with_reducible repeat (first | refine blk_drewN ?_ _ | refine blk_drew ?_ | refine blk_alloc ?_ _)); refine blk_put (cs := #[.int .i64 t512, .int .i64 t513, .int .i64 t514, .int .i64 t515, .int .i64 t516, .int .i64 t517, .int .i64 t518, .int .i64 t519, .slice Ao43 x508008_2.length co43]) ?_ 8 _ rfl; (with_reducible repeat (first | refine blk_drewN ?_ _ | refine blk_drew ?_ | refine blk_alloc ?_ _)); refine blk_put (cs := #[.int .i64 t512, .int .i64 t513, .int .i64 t514, .int .i64 t515, .int .i64 t516, .int .i64 t517, .int .i64 t518, .int .i64 x508007_2, .slice Ao43 x508008_2.length co43]) ?_ 7 _ rfl; (with_reducible repeat (first | refine blk_drewN ?_ _ | refine blk_drew ?_ | refine blk_alloc ?_ _)); refine blk_put (cs := #[.int .i64 t512, .int .i64 t513, .int .i64 t514, .int .i64 t515, .int .i64 t516, .int .i64 t517, .int .i64 x508006_2, .int .i64 x508007_2, .slice Ao43 x508008_2.length co43]) ?_ 6 _ rfl; (with_reducible repeat (first | refine blk_drewN ?_ _ | refine blk_drew ?_ | refine blk_alloc ?_ _)); refine blk_put (cs := #[.int .i64 t512, .int .i64 t513, .int .i64 t514, .int .i64 t515, .int .i64 t516, .int .i64 x508005_2, .int .i64 x508006_2, .int .i64 x508007_2, .slice Ao43 x508008_2.length co43]) ?_ 5 _ rfl; (with_reducible repeat (first | refine blk_drewN ?_ _ | refine blk_drew ?_ | refine blk_alloc ?_ _)); refine blk_put (cs := #[.int .i64 t512, .int .i64 t513, .int .i64 t514, .int .i64 t515, .int .i64 x508004_2, .int .i64 x508005_2, .int .i64 x508006_2, .int .i64 x508007_2, .slice Ao43 x508008_2.length co43]) ?_ 4 _ rfl; (with_reducible repeat (first | refine blk_drewN ?_ _ | refine blk_drew ?_ | refine blk_alloc ?_ _)); refine blk_put (cs := #[.int .i64 t512, .int .i64 t513, .int .i64 t514, .int .i64 x508003_2, .int .i64 x508004_2, .int .i64 x508005_2, .int .i64 x508006_2, .int .i64 x508007_2, .slice Ao43 x508008_2.length co43]) ?_ 3 _ rfl; (with_reducible repeat (first | refine blk_drewN ?_ _ | refine blk_drew ?_ | refine blk_alloc ?_ _)); refine blk_put (cs := #[.int .i64 t512, .int .i64 t513, .int .i64 x508002_2, .int .i64 x508003_2, .int .i64 x508004_2, .int .i64 x508005_2, .int .i64 x508006_2, .int .i64 x508007_2, .slice Ao43 x508008_2.length co43]) ?_ 2 _ rfl; (with_reducible repeat (first | refine blk_drewN ?_ _ | refine blk_drew ?_ | refine blk_alloc ?_ _)); refine blk_put (cs := #[.int .i64 t512, .int .i64 x508001_2, .int .i64 x508002_2, .int .i64 x508003_2, .int .i64 x508004_2, .int .i64 x508005_2, .int .i64 x508006_2, .int .i64 x508007_2, .slice Ao43 x508008_2.length co43]) ?_ 1 _ rfl; (with_reducible repeat (first | refine blk_drewN ?_ _ | refine blk_drew ?_ | refine blk_alloc ?_ _)); refine blk_put (cs := #[.int .i64 x508000_2, .int .i64 x508001_2, .int .i64 x508002_2, .int .i64 x508003_2, .int .i64 x508004_2, .int .i64 x508005_2, .int .i64 x508006_2, .int .i64 x508007_2, .slice Ao43 x508008_2.length co43]) ?_ 0 _ rfl; (with_reducible repeat (first | refine blk_drewN ?_ _ | refine blk_drew ?_ | refine blk_alloc ?_ _)); (iterate 9 (refine blk_far ?_ NB507_524.out _; (with_reducible repeat (first | refine blk_drewN ?_ _ | refine blk_drew ?_ | refine blk_alloc ?_ _)))); exact BK507.out⟩, ⟨by repeat (first | (with_reducible first | exact HB.out | apply below_alloc | apply pw_below_drewN | apply below_drew1 | refine below_set ?_ GE501.out | refine below_set ?_ GE507.out | refine below_set ?_ GE524.out) | exact HB.out)⟩⟩
            ·
             rw [if_neg c42] at H
             have c42b0 : (t525 == 0) = false := beq_eq_false_iff_ne.mpr c42
             have c42b1 : (t525 != 0) = true := bne_iff_ne.mpr c42
             exact absurd (Option.some.inj H) (by rw [HT_.out]; exact Bool.false_ne_true)
           ·
            rw [if_neg c39] at H
            exact absurd H (by simp)
          ·
           rw [if_neg c38] at H
           exact absurd H (by simp)
      ·
       rw [if_neg c31] at H
       have c31b0 : decide (x8_2 < (l1.length : Int)) = false := decide_eq_false c31
       clear c31
       have H' := Aside0.mk H
       clear H
       go_wp2
       go_loopg [2, 11, 12] k2 (fun kq v2 v11 v12 w' => ∃ (x2_3 : Int) (x11_3 : List (S41)) (x12_3 : Int) (x508000_3 : Int) (x508001_3 : Int) (x508002_3 : Int) (x508003_3 : Int) (x508004_3 : Int) (x508005_3 : Int) (x508006_3 : Int) (x508007_3 : Int) (x508008_3 : List (S41)) (u508008 : Value), v2 = .int .i64 x2_3 ∧ v12 = .int .i64 x12_3 ∧ Aside0 (wharflaw19_RateOrder.l1 kq l1 x2_3 x11_3 x12_3 x508000_3 x508001_3 x508002_3 x508003_3 x508004_3 x508005_3 x508006_3 x508007_3 x508008_3 = some r) ∧ Aside0 (kq ≤ k2) ∧ Aside0 (Kd.N k41 41 w' w.heap.size (fun k_ => k_ ≠ gb501 ∧ k_ ≠ gb507) v11 x11_3) ∧ Aside0 (Kd.V k41 41 w' w.heap.size (fun k_ => some k_ ≠ (v11 : Value).ownBlock ∧ k_ ≠ gb501 ∧ k_ ≠ gb507) u508008 x508008_3) ∧ Aside0 (w'.heap[gb501]? = some (.cells #[.int .i64 a0_0, .int .i64 a0_1, .int .i64 a0_2, .int .i64 a0_3, .int .i64 a0_4, .int .i64 a0_5, .int .i64 a0_6, .int .i64 a0_7] 23 (0, 0))) ∧ Aside0 (w'.heap[gb507]? = some (.cells #[.int .i64 x508000_3, .int .i64 x508001_3, .int .i64 x508002_3, .int .i64 x508003_3, .int .i64 x508004_3, .int .i64 x508005_3, .int .i64 x508006_3, .int .i64 x508007_3, u508008] 36 (0, 0))) ∧ Aside0 (Below w.heap.size w w'))
       case atStart => exact ⟨(a2), (([] : List (S41))), (0), (x508000_2), (x508001_2), (x508002_2), (x508003_2), (x508004_2), (x508005_2), (x508006_2), (x508007_2), (x508008_2), (u508008), (by first | rfl | (simp; done) | (simp [*]; done)), (by first | rfl | (simp; done) | (simp [*]; done)), H', ⟨Nat.le_refl _⟩, ⟨by first | exact Kd.S_nil _ _ _ _ _ | exact Kd.N_nil _ _ _ _ _ | exact Kd.V_nil _ _ _ _ _ | exact Kd.Q_nil _ _ _ _ _ | exact Kd.R_nil _ _ _ _ _⟩, ⟨by (with_reducible repeat (first | apply Kd.V_alloc | apply Kd.V_drewN | apply Kd.V_drew)); exact Kd.V_mono HO_508008.out (fun _ hk => ⟨(by simp [Value.ownBlock]), ⟨hk.1, hk.2⟩⟩)⟩, ⟨by (with_reducible repeat (first | refine blk_drewN ?_ _ | refine blk_drew ?_ | refine blk_alloc ?_ _)); exact BK501.out⟩, ⟨by (with_reducible repeat (first | refine blk_drewN ?_ _ | refine blk_drew ?_ | refine blk_alloc ?_ _)); exact BK507.out⟩, ⟨by repeat (first | (with_reducible first | exact HB.out | apply below_alloc | apply pw_below_drewN | apply below_drew1 | refine below_set ?_ GE501.out | refine below_set ?_ GE507.out) | exact HB.out)⟩⟩
       case round =>
        clear H'
        try clear c1
        try clear c2
        try clear p2
        try clear c3
        try clear c4
        try clear c5
        try clear p5
        try clear q5
        try clear hx5
        try clear c6
        try clear p6
        try clear c9
        try clear c13
        try clear c23
        try clear c31
        try clear c31b0
        try clear c35
        try clear c38
        try clear c38b0
        try clear c39
        try clear c39b0
        try clear c42
        try clear c42b0
        try clear c42b1
        try clear p50
        try clear q50
        try clear hx50
        try clear c51
        try clear p51
        try clear q51
        try clear hx51
        try clear c58
        try clear c59
        try clear c61
        try clear hcz13_7
        try clear hcz16_0
        try clear hcz16_1
        try clear hcz16_2
        try clear hcz16_3
        try clear hcz16_4
        try clear hcz16_5
        try clear hcz16_6
        try clear hcz16_7
        try clear hcz19_0
        try clear hcz19_1
        try clear hcz19_2
        try clear hcz19_3
        try clear hcz19_4
        try clear hcz19_5
        try clear hcz19_6
        try clear hcz19_7
        try clear hcz22_0
        try clear hcz22_1
        try clear hcz22_2
        try clear hcz22_3
        try clear hcz22_4
        try clear hcz22_5
        try clear hcz22_6
        try clear hcz22_7
        try clear hcz27_0
        try clear hcz27_1
        try clear hcz27_2
        try clear hcz27_3
        try clear hcz27_4
        try clear hcz27_5
        try clear hcz27_6
        try clear hcz27_7
        try clear hcz30_0
        try clear hcz30_1
        try clear hcz30_2
        try clear hcz30_3
        try clear hcz30_4
        try clear hcz30_5
        try clear hcz30_6
        try clear hcz30_7
        try clear hcz30_8
        try clear hcz60_0
        try clear hcz60_1
        try clear hcz60_2
        try clear hcz60_3
        try clear hcz60_4
        try clear hcz60_5
        try clear hcz60_6
        try clear hcz60_7
        try clear hcz60_8
        try clear hcz62_0
        try clear hcz62_1
        try clear hcz62_2
        try clear hcz62_3
        try clear hcz62_4
        try clear hcz62_5
        try clear hcz62_6
        try clear hcz62_7
        try clear hcz62_8
        try clear hfz13_0
        try clear hfz13_1
        try clear hfz13_2
        try clear hfz13_3
        try clear hfz13_4
        try clear hfz13_5
        try clear hfz13_6
        try clear hfz13_7
        try clear hfz16_0
        try clear hfz16_1
        try clear hfz16_2
        try clear hfz16_3
        try clear hfz16_4
        try clear hfz16_5
        try clear hfz16_6
        try clear hfz16_7
        try clear hfz19_0
        try clear hfz19_1
        try clear hfz19_2
        try clear hfz19_3
        try clear hfz19_4
        try clear hfz19_5
        try clear hfz19_6
        try clear hfz19_7
        try clear hfz22_0
        try clear hfz22_1
        try clear hfz22_2
        try clear hfz22_3
        try clear hfz22_4
        try clear hfz22_5
        try clear hfz22_6
        try clear hfz22_7
        try clear hfz27_0
        try clear hfz27_1
        try clear hfz27_2
        try clear hfz27_3
        try clear hfz27_4
        try clear hfz27_5
        try clear hfz27_6
        try clear hfz27_7
        try clear hfz30_0
        try clear hfz30_1
        try clear hfz30_2
        try clear hfz30_3
        try clear hfz30_4
        try clear hfz30_5
        try clear hfz30_6
        try clear hfz30_7
        try clear hfz30_8
        try clear hfz60_0
        try clear hfz60_1
        try clear hfz60_2
        try clear hfz60_3
        try clear hfz60_4
        try clear hfz60_5
        try clear hfz60_6
        try clear hfz60_7
        try clear hfz60_8
        try clear hfz62_0
        try clear hfz62_1
        try clear hfz62_2
        try clear hfz62_3
        try clear hfz62_4
        try clear hfz62_5
        try clear hfz62_6
        try clear hfz62_7
        try clear hfz62_8
        try clear hx508_0
        try clear hx508_1
        try clear hx508_10
        try clear hx508_2
        try clear hx508_3
        try clear hx508_4
        try clear hx508_5
        try clear hx508_6
        try clear hx508_7
        try clear hx508_8
        try clear hx508_9
        try clear hx509_0
        try clear hx509_1
        try clear hx509_10
        try clear hx509_2
        try clear hx509_3
        try clear hx509_4
        try clear hx509_5
        try clear hx509_6
        try clear hx509_7
        try clear hx509_8
        try clear hx509_9
        try clear hx511_0
        try clear hx511_1
        try clear hx511_10
        try clear hx511_2
        try clear hx511_3
        try clear hx511_4
        try clear hx511_5
        try clear hx511_6
        try clear hx511_7
        try clear hx511_8
        try clear hx511_9
        try clear p2
        try clear p508
        try clear p509
        try clear p511
        try clear q508
        try clear q509
        try clear q511
        obtain ⟨x2_3, x11_3, x12_3, x508000_3, x508001_3, x508002_3, x508003_3, x508004_3, x508005_3, x508006_3, x508007_3, x508008_3, u508008, rfl, rfl, HA, HK3, HO_11, HO_508008, BK501, BK507, HB⟩ := hrel
        cases gk with
        | zero => exact absurd HA.out (by simp [wharflaw19_RateOrder.l1])
        | succ k3 =>
         have H := HA.out
         clear HA
         simp only [wharflaw19_RateOrder.l1] at H
         have HC63 := Aside0.mk H
         clear H
         go_upto_region 15 with (fail)
         go_cut [79] (fun v79 wc => ∃ (kq : Nat) (x79_62 : Bool), v79 = .bool x79_62 ∧ Aside0 (wharflaw19_RateOrder.j4 kq l1 x2_3 x11_3 x12_3 x79_62 x508000_3 x508001_3 x508002_3 x508003_3 x508004_3 x508005_3 x508006_3 x508007_3 x508008_3 = some r) ∧ Aside0 (kq ≤ k3) ∧ Aside0 (Kd.N k41 41 wc w.heap.size (fun k_ => k_ ≠ gb501 ∧ k_ ≠ gb507) u11 x11_3) ∧ Aside0 (Kd.V k41 41 wc w.heap.size (fun k_ => some k_ ≠ (u11 : Value).ownBlock ∧ k_ ≠ gb501 ∧ k_ ≠ gb507) u508008 x508008_3) ∧ Aside0 (wc.heap[gb501]? = some (.cells #[.int .i64 a0_0, .int .i64 a0_1, .int .i64 a0_2, .int .i64 a0_3, .int .i64 a0_4, .int .i64 a0_5, .int .i64 a0_6, .int .i64 a0_7] 23 (0, 0))) ∧ Aside0 (wc.heap[gb507]? = some (.cells #[.int .i64 x508000_3, .int .i64 x508001_3, .int .i64 x508002_3, .int .i64 x508003_3, .int .i64 x508004_3, .int .i64 x508005_3, .int .i64 x508006_3, .int .i64 x508007_3, u508008] 36 (0, 0))) ∧ Aside0 (Below w.heap.size w wc))
         case first =>
          have H := HC63.out
          clear HC63
          by_cases c64 : x12_3 ≤ 16
          ·
           rw [if_pos c64] at H
           have c64b0 : decide (x12_3 ≤ 16) = true := decide_eq_true c64
           clear c64
           (first | rw [c64b0] | (simp only [i64_w, i32_w]; rw [c64b0]) | skip)
           have H' := Aside0.mk H
           clear H
           have hnb65 := NB507_501.out
           have hnc65 := NB501_507.out
           have hcz66_0 : wr.cell? ⟨gb507, 0, none⟩ = some (.int .i64 x508000_3) := (blk_cell BK507.out 0).trans rfl
           have hcz66_1 : wr.cell? ⟨gb507, 1, none⟩ = some (.int .i64 x508001_3) := (blk_cell BK507.out 1).trans rfl
           have hcz66_2 : wr.cell? ⟨gb507, 2, none⟩ = some (.int .i64 x508002_3) := (blk_cell BK507.out 2).trans rfl
           have hcz66_3 : wr.cell? ⟨gb507, 3, none⟩ = some (.int .i64 x508003_3) := (blk_cell BK507.out 3).trans rfl
           have hcz66_4 : wr.cell? ⟨gb507, 4, none⟩ = some (.int .i64 x508004_3) := (blk_cell BK507.out 4).trans rfl
           have hcz66_5 : wr.cell? ⟨gb507, 5, none⟩ = some (.int .i64 x508005_3) := (blk_cell BK507.out 5).trans rfl
           have hcz66_6 : wr.cell? ⟨gb507, 6, none⟩ = some (.int .i64 x508006_3) := (blk_cell BK507.out 6).trans rfl
           have hcz66_7 : wr.cell? ⟨gb507, 7, none⟩ = some (.int .i64 x508007_3) := (blk_cell BK507.out 7).trans rfl
           have hcz66_8 : wr.cell? ⟨gb507, 8, none⟩ = some (u508008) := (blk_cell BK507.out 8).trans rfl
           have hfz66_0 := blk_frozen BK507.out 0
           have hfz66_1 := blk_frozen BK507.out 1
           have hfz66_2 := blk_frozen BK507.out 2
           have hfz66_3 := blk_frozen BK507.out 3
           have hfz66_4 := blk_frozen BK507.out 4
           have hfz66_5 := blk_frozen BK507.out 5
           have hfz66_6 := blk_frozen BK507.out 6
           have hfz66_7 := blk_frozen BK507.out 7
           have hfz66_8 := blk_frozen BK507.out 8
           obtain ⟨Ao67, co67, eo67⟩ := Kd.V_slice HO_508008.out
           subst eo67
           go_wp2
           go_meet
           case rel => exact ⟨_, (decide ((x508008_3.length : Int) > 0)), (by first | rfl | (simp; done) | (simp [*]; done)), H', ⟨by have := HJ3.out; have := HK2.out; have := HK3.out; first | omega | exact Nat.le_refl _⟩, ⟨by (with_reducible repeat (first | apply Kd.N_alloc | apply Kd.N_drewN | apply Kd.N_drew)); exact HO_11.out⟩, ⟨by (with_reducible repeat (first | apply Kd.V_alloc | apply Kd.V_drewN | apply Kd.V_drew)); exact HO_508008.out⟩, ⟨by (with_reducible repeat (first | refine blk_drewN ?_ _ | refine blk_drew ?_ | refine blk_alloc ?_ _)); exact BK501.out⟩, ⟨by (with_reducible repeat (first | refine blk_drewN ?_ _ | refine blk_drew ?_ | refine blk_alloc ?_ _)); exact BK507.out⟩, ⟨by repeat (first | (with_reducible first | exact HB.out | apply below_alloc | apply pw_below_drewN | apply below_drew1 | refine below_set ?_ GE501.out | refine below_set ?_ GE507.out) | exact HB.out)⟩⟩
          ·
           rw [if_neg c64] at H
           have c64b0 : decide (x12_3 ≤ 16) = false := decide_eq_false c64
           clear c64
           (first | rw [c64b0] | (simp only [i64_w, i32_w]; rw [c64b0]) | skip)
           have H' := Aside0.mk H
           clear H
           go_wp2
           go_meet
           case rel => exact ⟨_, (false), (by first | rfl | (simp; done) | (simp [*]; done)), H', ⟨by have := HJ3.out; have := HK2.out; have := HK3.out; first | omega | exact Nat.le_refl _⟩, ⟨by (with_reducible repeat (first | apply Kd.N_alloc | apply Kd.N_drewN | apply Kd.N_drew)); exact HO_11.out⟩, ⟨by (with_reducible repeat (first | apply Kd.V_alloc | apply Kd.V_drewN | apply Kd.V_drew)); exact HO_508008.out⟩, ⟨by (with_reducible repeat (first | refine blk_drewN ?_ _ | refine blk_drew ?_ | refine blk_alloc ?_ _)); exact BK501.out⟩, ⟨by (with_reducible repeat (first | refine blk_drewN ?_ _ | refine blk_drew ?_ | refine blk_alloc ?_ _)); exact BK507.out⟩, ⟨by repeat (first | (with_reducible first | exact HB.out | apply below_alloc | apply pw_below_drewN | apply below_drew1 | refine below_set ?_ GE501.out | refine below_set ?_ GE507.out) | exact HB.out)⟩⟩
         case rest =>
          clear HC63
          try clear c1
          try clear c2
          try clear p2
          try clear c3
          try clear c4
          try clear c5
          try clear p5
          try clear q5
          try clear hx5
          try clear c6
          try clear p6
          try clear c9
          try clear c13
          try clear c23
          try clear c31
          try clear c31b0
          try clear c35
          try clear c38
          try clear c38b0
          try clear c39
          try clear c39b0
          try clear c42
          try clear c42b0
          try clear c42b1
          try clear p50
          try clear q50
          try clear hx50
          try clear c51
          try clear p51
          try clear q51
          try clear hx51
          try clear c58
          try clear c59
          try clear c61
          try clear c64
          try clear c64b0
          try clear p64
          try clear c65
          try clear hcz13_7
          try clear hcz16_0
          try clear hcz16_1
          try clear hcz16_2
          try clear hcz16_3
          try clear hcz16_4
          try clear hcz16_5
          try clear hcz16_6
          try clear hcz16_7
          try clear hcz19_0
          try clear hcz19_1
          try clear hcz19_2
          try clear hcz19_3
          try clear hcz19_4
          try clear hcz19_5
          try clear hcz19_6
          try clear hcz19_7
          try clear hcz22_0
          try clear hcz22_1
          try clear hcz22_2
          try clear hcz22_3
          try clear hcz22_4
          try clear hcz22_5
          try clear hcz22_6
          try clear hcz22_7
          try clear hcz27_0
          try clear hcz27_1
          try clear hcz27_2
          try clear hcz27_3
          try clear hcz27_4
          try clear hcz27_5
          try clear hcz27_6
          try clear hcz27_7
          try clear hcz30_0
          try clear hcz30_1
          try clear hcz30_2
          try clear hcz30_3
          try clear hcz30_4
          try clear hcz30_5
          try clear hcz30_6
          try clear hcz30_7
          try clear hcz30_8
          try clear hcz60_0
          try clear hcz60_1
          try clear hcz60_2
          try clear hcz60_3
          try clear hcz60_4
          try clear hcz60_5
          try clear hcz60_6
          try clear hcz60_7
          try clear hcz60_8
          try clear hcz62_0
          try clear hcz62_1
          try clear hcz62_2
          try clear hcz62_3
          try clear hcz62_4
          try clear hcz62_5
          try clear hcz62_6
          try clear hcz62_7
          try clear hcz62_8
          try clear hcz66_0
          try clear hcz66_1
          try clear hcz66_2
          try clear hcz66_3
          try clear hcz66_4
          try clear hcz66_5
          try clear hcz66_6
          try clear hcz66_7
          try clear hcz66_8
          try clear hfz13_0
          try clear hfz13_1
          try clear hfz13_2
          try clear hfz13_3
          try clear hfz13_4
          try clear hfz13_5
          try clear hfz13_6
          try clear hfz13_7
          try clear hfz16_0
          try clear hfz16_1
          try clear hfz16_2
          try clear hfz16_3
          try clear hfz16_4
          try clear hfz16_5
          try clear hfz16_6
          try clear hfz16_7
          try clear hfz19_0
          try clear hfz19_1
          try clear hfz19_2
          try clear hfz19_3
          try clear hfz19_4
          try clear hfz19_5
          try clear hfz19_6
          try clear hfz19_7
          try clear hfz22_0
          try clear hfz22_1
          try clear hfz22_2
          try clear hfz22_3
          try clear hfz22_4
          try clear hfz22_5
          try clear hfz22_6
          try clear hfz22_7
          try clear hfz27_0
          try clear hfz27_1
          try clear hfz27_2
          try clear hfz27_3
          try clear hfz27_4
          try clear hfz27_5
          try clear hfz27_6
          try clear hfz27_7
          try clear hfz30_0
          try clear hfz30_1
          try clear hfz30_2
          try clear hfz30_3
          try clear hfz30_4
          try clear hfz30_5
          try clear hfz30_6
          try clear hfz30_7
          try clear hfz30_8
          try clear hfz60_0
          try clear hfz60_1
          try clear hfz60_2
          try clear hfz60_3
          try clear hfz60_4
          try clear hfz60_5
          try clear hfz60_6
          try clear hfz60_7
          try clear hfz60_8
          try clear hfz62_0
          try clear hfz62_1
          try clear hfz62_2
          try clear hfz62_3
          try clear hfz62_4
          try clear hfz62_5
          try clear hfz62_6
          try clear hfz62_7
          try clear hfz62_8
          try clear hfz66_0
          try clear hfz66_1
          try clear hfz66_2
          try clear hfz66_3
          try clear hfz66_4
          try clear hfz66_5
          try clear hfz66_6
          try clear hfz66_7
          try clear hfz66_8
          try clear hx508_0
          try clear hx508_1
          try clear hx508_10
          try clear hx508_2
          try clear hx508_3
          try clear hx508_4
          try clear hx508_5
          try clear hx508_6
          try clear hx508_7
          try clear hx508_8
          try clear hx508_9
          try clear hx509_0
          try clear hx509_1
          try clear hx509_10
          try clear hx509_2
          try clear hx509_3
          try clear hx509_4
          try clear hx509_5
          try clear hx509_6
          try clear hx509_7
          try clear hx509_8
          try clear hx509_9
          try clear hx511_0
          try clear hx511_1
          try clear hx511_10
          try clear hx511_2
          try clear hx511_3
          try clear hx511_4
          try clear hx511_5
          try clear hx511_6
          try clear hx511_7
          try clear hx511_8
          try clear hx511_9
          try clear p2
          try clear p5
          try clear p50
          try clear p508
          try clear p509
          try clear p51
          try clear p511
          try clear p6
          try clear q5
          try clear q50
          try clear q508
          try clear q509
          try clear q51
          try clear q511
          obtain ⟨kq, x79_62, rfl, HA, HJ62, HO_11, HO_508008, BK501, BK507, HB⟩ := hcut
          cases kq with
          | zero => exact absurd HA.out (by simp [wharflaw19_RateOrder.j4])
          | succ kj62 =>
           have H := HA.out
           clear HA
           simp only [wharflaw19_RateOrder.j4] at H
           by_cases c68 : x79_62 = true
           ·
            subst c68
            have H1 : ((rate_Pop.f kj62 x508000_3 x508001_3 x508002_3 x508003_3 x508004_3 x508005_3 x508006_3 x508007_3 x508008_3 x2_3).bind fun bt531 => (if x11_3.length + bt531.2.2.2.2.2.2.2.2.2.length < 977343669134 then ((some (x11_3 ++ bt531.2.2.2.2.2.2.2.2.2 : List (S41))).bind fun y546 => (if (wrap64 ((bt531.2.2.2.2.2.2.2.2.2.length : Int) + (bt531.2.2.2.2.2.2.2.2.1.length : Int))) = (x508008_3.length : Int) then ((rate_Wait.f kj62 bt531.1 bt531.2.1 bt531.2.2.1 bt531.2.2.2.1 bt531.2.2.2.2.1 bt531.2.2.2.2.2.1 bt531.2.2.2.2.2.2.1 bt531.2.2.2.2.2.2.2.1 x2_3).bind fun t549 => (if t549 > (wrap64 (4503599627370496 - x2_3)) then (if y546.length + bt531.2.2.2.2.2.2.2.2.1.length < 977343669134 then ((wharfref14_List.f kj62 (y546 ++ bt531.2.2.2.2.2.2.2.2.1) l1).bind fun t553 => (if t553 = true then ((wharflaw19_live.f kj62).bind fun t554 => (some t554)) else (some false))) else (none)) else (wharflaw19_RateOrder.l1 kj62 l1 (wrap64 (x2_3 + t549)) y546 (wrap64 (x12_3 + 1)) bt531.1 bt531.2.1 bt531.2.2.1 bt531.2.2.2.1 bt531.2.2.2.2.1 bt531.2.2.2.2.2.1 bt531.2.2.2.2.2.2.1 bt531.2.2.2.2.2.2.2.1 bt531.2.2.2.2.2.2.2.2.1))) else (some false))) else (none))) = some r := by rw [if_pos rfl] at H; exact H
            clear H
            have H := H1
            clear H1
            replace H := Option.bind_eq_some_iff.mp H
            obtain ⟨⟨t531, t532, t533, t534, t535, t536, t537, t538, t539, t542⟩, A690, H⟩ := H
            replace H : (if x11_3.length + t542.length < 977343669134 then ((some (x11_3 ++ t542 : List (S41))).bind fun y546 => (if (wrap64 ((t542.length : Int) + (t539.length : Int))) = (x508008_3.length : Int) then ((rate_Wait.f kj62 t531 t532 t533 t534 t535 t536 t537 t538 x2_3).bind fun t549 => (if t549 > (wrap64 (4503599627370496 - x2_3)) then (if y546.length + t539.length < 977343669134 then ((wharfref14_List.f kj62 (y546 ++ t539) l1).bind fun t553 => (if t553 = true then ((wharflaw19_live.f kj62).bind fun t554 => (some t554)) else (some false))) else (none)) else (wharflaw19_RateOrder.l1 kj62 l1 (wrap64 (x2_3 + t549)) y546 (wrap64 (x12_3 + 1)) t531 t532 t533 t534 t535 t536 t537 t538 t539))) else (some false))) else (none)) = some r := H
            have A69 := Aside0.mk A690
            clear A690
            by_cases c70 : x11_3.length + t542.length < 977343669134
            ·
             rw [if_pos c70] at H
             have LMc70 := Aside0.mk c70
             clear c70
             obtain ⟨y546, hy546⟩ : ∃ y_ : List (S41), y_ = (x11_3 ++ t542) := ⟨_, rfl⟩
             replace H : (if (wrap64 ((t542.length : Int) + (t539.length : Int))) = (x508008_3.length : Int) then ((rate_Wait.f kj62 t531 t532 t533 t534 t535 t536 t537 t538 x2_3).bind fun t549 => (if t549 > (wrap64 (4503599627370496 - x2_3)) then (if y546.length + t539.length < 977343669134 then ((wharfref14_List.f kj62 (y546 ++ t539) l1).bind fun t553 => (if t553 = true then ((wharflaw19_live.f kj62).bind fun t554 => (some t554)) else (some false))) else (none)) else (wharflaw19_RateOrder.l1 kj62 l1 (wrap64 (x2_3 + t549)) y546 (wrap64 (x12_3 + 1)) t531 t532 t533 t534 t535 t536 t537 t538 t539))) else (some false)) = some r := by first | (rw [hy546]; with_reducible exact H) | (have H2_ := (Option.bind_some _ _).symm.trans H; rw [hy546]; with_reducible exact H2_) | (have H2_ := (Option.bind_some _ _).symm.trans H; with_reducible exact H2_) | with_reducible exact H | (rw [hy546]; exact H) | exact H
             have Ny546 := Aside0.mk hy546
             clear hy546
             by_cases c71 : (wrap64 ((t542.length : Int) + (t539.length : Int))) = (x508008_3.length : Int)
             ·
              rw [if_pos c71] at H
              have c71b0 : ((wrap64 ((t542.length : Int) + (t539.length : Int))) == (x508008_3.length : Int)) = true := beq_iff_eq.mpr c71
              have c71b1 : ((wrap64 ((t542.length : Int) + (t539.length : Int))) != (x508008_3.length : Int)) = false := bne_eq_false_iff_eq.mpr c71
              clear c71
              replace H := Option.bind_eq_some_iff.mp H
              obtain ⟨t549, A720, H⟩ := H
              replace H : (if t549 > (wrap64 (4503599627370496 - x2_3)) then (if y546.length + t539.length < 977343669134 then ((wharfref14_List.f kj62 (y546 ++ t539) l1).bind fun t553 => (if t553 = true then ((wharflaw19_live.f kj62).bind fun t554 => (some t554)) else (some false))) else (none)) else (wharflaw19_RateOrder.l1 kj62 l1 (wrap64 (x2_3 + t549)) y546 (wrap64 (x12_3 + 1)) t531 t532 t533 t534 t535 t536 t537 t538 t539)) = some r := H
              have A72 := Aside0.mk A720
              clear A720
              by_cases c73 : t549 > (wrap64 (4503599627370496 - x2_3))
              ·
               rw [if_pos c73] at H
               have c73b0 : decide ((wrap64 (4503599627370496 - x2_3)) < t549) = true := decide_eq_true c73
               clear c73
               by_cases c74 : y546.length + t539.length < 977343669134
               ·
                rw [if_pos c74] at H
                have LMc74 := Aside0.mk c74
                clear c74
                obtain ⟨y550, hy550⟩ : ∃ y_ : List (S41), y_ = (y546 ++ t539) := ⟨_, rfl⟩
                replace H : ((wharfref14_List.f kj62 y550 l1).bind fun t553 => (if t553 = true then ((wharflaw19_live.f kj62).bind fun t554 => (some t554)) else (some false))) = some r := by first | (rw [hy550]; with_reducible exact H) | (have H2_ := (Option.bind_some _ _).symm.trans H; rw [hy550]; with_reducible exact H2_) | (have H2_ := (Option.bind_some _ _).symm.trans H; with_reducible exact H2_) | with_reducible exact H | (rw [hy550]; exact H) | exact H
                have Ny550 := Aside0.mk hy550
                clear hy550
                replace H := Option.bind_eq_some_iff.mp H
                obtain ⟨t553, A750, H⟩ := H
                replace H : (if t553 = true then ((wharflaw19_live.f kj62).bind fun t554 => (some t554)) else (some false)) = some r := H
                have A75 := Aside0.mk A750
                clear A750
                by_cases c76 : t553 = true
                ·
                 subst c76
                 have H1 : ((wharflaw19_live.f kj62).bind fun t554 => (some t554)) = some r := by rw [if_pos rfl] at H; exact H
                 clear H
                 have H := H1
                 clear H1
                 replace H := Option.bind_eq_some_iff.mp H
                 obtain ⟨t554, A770, H⟩ := H
                 replace H : (some t554) = some r := H
                 have A77 := Aside0.mk A770
                 clear A770
                 obtain rfl := Option.some.inj H
                 have hnb78 := NB507_501.out
                 have hnc78 := NB501_507.out
                 have hcz79_0 : wc.cell? ⟨gb507, 0, none⟩ = some (.int .i64 x508000_3) := (blk_cell BK507.out 0).trans rfl
                 have hcz79_1 : wc.cell? ⟨gb507, 1, none⟩ = some (.int .i64 x508001_3) := (blk_cell BK507.out 1).trans rfl
                 have hcz79_2 : wc.cell? ⟨gb507, 2, none⟩ = some (.int .i64 x508002_3) := (blk_cell BK507.out 2).trans rfl
                 have hcz79_3 : wc.cell? ⟨gb507, 3, none⟩ = some (.int .i64 x508003_3) := (blk_cell BK507.out 3).trans rfl
                 have hcz79_4 : wc.cell? ⟨gb507, 4, none⟩ = some (.int .i64 x508004_3) := (blk_cell BK507.out 4).trans rfl
                 have hcz79_5 : wc.cell? ⟨gb507, 5, none⟩ = some (.int .i64 x508005_3) := (blk_cell BK507.out 5).trans rfl
                 have hcz79_6 : wc.cell? ⟨gb507, 6, none⟩ = some (.int .i64 x508006_3) := (blk_cell BK507.out 6).trans rfl
                 have hcz79_7 : wc.cell? ⟨gb507, 7, none⟩ = some (.int .i64 x508007_3) := (blk_cell BK507.out 7).trans rfl
                 have hcz79_8 : wc.cell? ⟨gb507, 8, none⟩ = some (u508008) := (blk_cell BK507.out 8).trans rfl
                 have hfz79_0 := blk_frozen BK507.out 0
                 have hfz79_1 := blk_frozen BK507.out 1
                 have hfz79_2 := blk_frozen BK507.out 2
                 have hfz79_3 := blk_frozen BK507.out 3
                 have hfz79_4 := blk_frozen BK507.out 4
                 have hfz79_5 := blk_frozen BK507.out 5
                 have hfz79_6 := blk_frozen BK507.out 6
                 have hfz79_7 := blk_frozen BK507.out 7
                 have hfz79_8 := blk_frozen BK507.out 8
                 obtain ⟨Ao80, co80, eo80⟩ := Kd.V_slice HO_508008.out
                 subst eo80
                 go_wp2_with (first | ((with_reducible refine gate_callee (f := 25) rfl ?_); refine goesL_ (some 85) rfl rfl Try.func25 (by kernel_rfl) rfl #[.agg #[.int .i64 x508000_3, .int .i64 x508001_3, .int .i64 x508002_3, .int .i64 x508003_3, .int .i64 x508004_3, .int .i64 x508005_3, .int .i64 x508006_3, .int .i64 x508007_3, .slice Ao80 x508008_3.length co80], .int .i64 x2_3] rfl (by (try simp only [List.map_toArray, List.map_cons, List.map_nil]); first | done | rfl | (simp only [List.length_drop, List.length_take]; rfl)) ?_; (with_reducible refine (rate_Pop.calls kj62 x508000_3 x508001_3 x508002_3 x508003_3 x508004_3 x508005_3 x508006_3 x508007_3 (fun k_ => (some k_ ≠ (u11 : Value).ownBlock ∧ (k_ ≠ gb501 ∧ k_ ≠ gb507))) _ _ x508008_3 x2_3 t531 t532 t533 t534 t535 t536 t537 t538 t539 t542 _ ?side1 A69.out).mono ?_); (case side1 => exact HO_508008.out); rintro e w81 ⟨v540, v543, rfl, ho0, ho1, hb⟩; refine ⟨_, rfl, ?_⟩; have n0_ := Aside0.mk (Kd.N_mono (Kd.N_told (Kd.N_told (Kd.N_old (by (with_reducible repeat (first | apply Kd.N_alloc | apply Kd.N_drewN | apply Kd.N_drew)); exact HO_11.out) hb) (Kd.N_base ho0)) (Kd.N_base ho1)) (fun _ h_ => h_.1)); have n1_ := Aside0.mk (Kd.V_mono (Kd.V_told (Kd.V_told (Kd.V_old (by (with_reducible repeat (first | apply Kd.V_alloc | apply Kd.V_drewN | apply Kd.V_drew)); exact HO_508008.out) hb) (Kd.N_base ho0)) (Kd.N_base ho1)) (fun _ h_ => h_.1)); have n2_ := Aside0.mk (Kd.N_lower (Kd.N_mono (ok' := fun k_ => some k_ ≠ (v543 : Value).ownBlock ∧ some k_ ≠ (u11 : Value).ownBlock ∧ k_ ≠ gb501 ∧ k_ ≠ gb507) ho0 (fun k_ hk_ => ⟨hk_.2, Or.elim hk_.1 (fun hs_ => hs_.1) (fun hn_ => (Kd.fresh' (Kd.N_lt (by (with_reducible repeat (first | apply Kd.N_alloc | apply Kd.N_drewN | apply Kd.N_drew)); exact HO_11.out)) k_ hn_)), Or.elim hk_.1 (fun hs_ => hs_.2.1) (fun hn_ => (Kd.freshB (g := gb501) (o := .cells #[.int .i64 a0_0, .int .i64 a0_1, .int .i64 a0_2, .int .i64 a0_3, .int .i64 a0_4, .int .i64 a0_5, .int .i64 a0_6, .int .i64 a0_7] 23 (0, 0)) (by (with_reducible repeat (first | refine blk_drewN ?_ _ | refine blk_drew ?_ | refine blk_alloc ?_ _)); exact BK501.out) k_ hn_)), Or.elim hk_.1 (fun hs_ => hs_.2.2) (fun hn_ => (Kd.freshB (g := gb507) (o := .cells #[.int .i64 x508000_3, .int .i64 x508001_3, .int .i64 x508002_3, .int .i64 x508003_3, .int .i64 x508004_3, .int .i64 x508005_3, .int .i64 x508006_3, .int .i64 x508007_3, .slice Ao80 x508008_3.length co80] 36 (0, 0)) (by (with_reducible repeat (first | refine blk_drewN ?_ _ | refine blk_drew ?_ | refine blk_alloc ?_ _)); exact BK507.out) k_ hn_))⟩)) (below_size (by repeat (first | (with_reducible first | exact HB.out | apply below_alloc | apply pw_below_drewN | apply below_drew1 | refine below_set ?_ GE501.out | refine below_set ?_ GE507.out) | exact HB.out)))); have n3_ := Aside0.mk (Kd.N_lower (Kd.N_mono (ok' := fun k_ => some k_ ≠ (v540 : Value).ownBlock ∧ some k_ ≠ (u11 : Value).ownBlock ∧ k_ ≠ gb501 ∧ k_ ≠ gb507) ho1 (fun k_ hk_ => ⟨hk_.2, Or.elim hk_.1 (fun hs_ => hs_.1) (fun hn_ => (Kd.fresh' (Kd.N_lt (by (with_reducible repeat (first | apply Kd.N_alloc | apply Kd.N_drewN | apply Kd.N_drew)); exact HO_11.out)) k_ hn_)), Or.elim hk_.1 (fun hs_ => hs_.2.1) (fun hn_ => (Kd.freshB (g := gb501) (o := .cells #[.int .i64 a0_0, .int .i64 a0_1, .int .i64 a0_2, .int .i64 a0_3, .int .i64 a0_4, .int .i64 a0_5, .int .i64 a0_6, .int .i64 a0_7] 23 (0, 0)) (by (with_reducible repeat (first | refine blk_drewN ?_ _ | refine blk_drew ?_ | refine blk_alloc ?_ _)); exact BK501.out) k_ hn_)), Or.elim hk_.1 (fun hs_ => hs_.2.2) (fun hn_ => (Kd.freshB (g := gb507) (o := .cells #[.int .i64 x508000_3, .int .i64 x508001_3, .int .i64 x508002_3, .int .i64 x508003_3, .int .i64 x508004_3, .int .i64 x508005_3, .int .i64 x508006_3, .int .i64 x508007_3, .slice Ao80 x508008_3.length co80] 36 (0, 0)) (by (with_reducible repeat (first | refine blk_drewN ?_ _ | refine blk_drew ?_ | refine blk_alloc ?_ _)); exact BK507.out) k_ hn_))⟩)) (below_size (by repeat (first | (with_reducible first | exact HB.out | apply below_alloc | apply pw_below_drewN | apply below_drew1 | refine below_set ?_ GE501.out | refine below_set ?_ GE507.out) | exact HB.out)))); have n4_ := Aside0.mk (blk_below (g := gb501) (o := .cells #[.int .i64 a0_0, .int .i64 a0_1, .int .i64 a0_2, .int .i64 a0_3, .int .i64 a0_4, .int .i64 a0_5, .int .i64 a0_6, .int .i64 a0_7] 23 (0, 0)) (by (with_reducible repeat (first | refine blk_drewN ?_ _ | refine blk_drew ?_ | refine blk_alloc ?_ _)); exact BK501.out) hb); have n5_ := Aside0.mk (blk_below (g := gb507) (o := .cells #[.int .i64 x508000_3, .int .i64 x508001_3, .int .i64 x508002_3, .int .i64 x508003_3, .int .i64 x508004_3, .int .i64 x508005_3, .int .i64 x508006_3, .int .i64 x508007_3, .slice Ao80 x508008_3.length co80] 36 (0, 0)) (by (with_reducible repeat (first | refine blk_drewN ?_ _ | refine blk_drew ?_ | refine blk_alloc ?_ _)); exact BK507.out) hb); have n6_ := Aside0.mk (below_step (by repeat (first | (with_reducible first | exact HB.out | apply below_alloc | apply pw_below_drewN | apply below_drew1 | refine below_set ?_ GE501.out | refine below_set ?_ GE507.out) | exact HB.out)) hb); clear HO_11; clear HO_508008; clear BK501; clear BK507; clear HB; have HO_11 := n0_; have HO_508008 := n1_; have HO541 := n2_; have HO544 := n3_; have BK501 := n4_; have BK507 := n5_; have HB := n6_; clear n0_ n1_ n2_ n3_ n4_ n5_ n6_; (try clear hb); (try clear hb2); (try clear hk); (try clear hi); (try clear ho0); (try clear ho1)) | ((with_reducible refine gate_dst (N := 13) rfl ?_); (try (refine gate_guard (by rfl) ?_; dsimp only)); refine box_event ?hg (N := 13) ?hd (cs := #[.int .i64 0, .int .i64 0, .int .i64 0, .int .i64 0, .int .i64 0, .int .i64 0, .int .i64 0, .int .i64 0, .slice none 0 0]) (t := 36) ?hr ?_; (case hd => rfl); (case hg => rfl); (case hr => first | (go_simp; done) | (go_simp; rfl)); intro gb545 hg w82 hbox hb; have n0_ := Aside0.mk (Kd.N_below (Kd.N_elderB (by (with_reducible repeat (first | apply Kd.N_alloc | apply Kd.N_drewN | apply Kd.N_drew)); exact HO_11.out) gb545 (Nat.le_of_eq hg.symm)) hb); have n1_ := Aside0.mk (Kd.V_below (Kd.V_elderB (by (with_reducible repeat (first | apply Kd.V_alloc | apply Kd.V_drewN | apply Kd.V_drew)); exact HO_508008.out) gb545 (Nat.le_of_eq hg.symm)) hb); have n2_ := Aside0.mk (Kd.N_below (Kd.N_elderB (by (with_reducible repeat (first | apply Kd.N_alloc | apply Kd.N_drewN | apply Kd.N_drew)); exact HO541.out) gb545 (Nat.le_of_eq hg.symm)) hb); have n3_ := Aside0.mk (Kd.N_below (Kd.N_elderB (by (with_reducible repeat (first | apply Kd.N_alloc | apply Kd.N_drewN | apply Kd.N_drew)); exact HO544.out) gb545 (Nat.le_of_eq hg.symm)) hb); have n4_ := Aside0.mk (blk_below (g := gb501) (o := .cells #[.int .i64 a0_0, .int .i64 a0_1, .int .i64 a0_2, .int .i64 a0_3, .int .i64 a0_4, .int .i64 a0_5, .int .i64 a0_6, .int .i64 a0_7] 23 (0, 0)) (by (with_reducible repeat (first | refine blk_drewN ?_ _ | refine blk_drew ?_ | refine blk_alloc ?_ _)); exact BK501.out) hb); have n5_ := Aside0.mk (blk_below (g := gb507) (o := .cells #[.int .i64 x508000_3, .int .i64 x508001_3, .int .i64 x508002_3, .int .i64 x508003_3, .int .i64 x508004_3, .int .i64 x508005_3, .int .i64 x508006_3, .int .i64 x508007_3, .slice Ao80 x508008_3.length co80] 36 (0, 0)) (by (with_reducible repeat (first | refine blk_drewN ?_ _ | refine blk_drew ?_ | refine blk_alloc ?_ _)); exact BK507.out) hb); have n6_ := Aside0.mk (below_step (by repeat (first | (with_reducible first | exact HB.out | apply below_alloc | apply pw_below_drewN | apply below_drew1 | refine below_set ?_ GE501.out | refine below_set ?_ GE507.out) | exact HB.out)) hb); have n7_ := Aside0.mk (hbox); have n8_ := Aside0.mk ((by rw [hg]; exact (below_size (by repeat (first | (with_reducible first | exact HB.out | apply below_alloc | apply pw_below_drewN | apply below_drew1 | refine below_set ?_ GE501.out | refine below_set ?_ GE507.out) | exact HB.out))) : w.heap.size ≤ gb545)); have n9_ := Aside0.mk ((by rw [hg]; exact (below_size (by repeat (first | (with_reducible first | exact HB.out | apply below_alloc | apply pw_below_drewN | apply below_drew1 | refine below_set ?_ GE501.out | refine below_set ?_ GE507.out) | exact HB.out))) : w.heap.size ≤ gb545)); have n10_ := Aside0.mk ((by rw [hg]; exact Nat.ne_of_lt (blk_lt (g := gb501) (o := .cells #[.int .i64 a0_0, .int .i64 a0_1, .int .i64 a0_2, .int .i64 a0_3, .int .i64 a0_4, .int .i64 a0_5, .int .i64 a0_6, .int .i64 a0_7] 23 (0, 0)) (by (with_reducible repeat (first | refine blk_drewN ?_ _ | refine blk_drew ?_ | refine blk_alloc ?_ _)); exact BK501.out)) : gb501 ≠ gb545)); have n11_ := Aside0.mk ((by rw [hg]; exact Nat.ne_of_gt (blk_lt (g := gb501) (o := .cells #[.int .i64 a0_0, .int .i64 a0_1, .int .i64 a0_2, .int .i64 a0_3, .int .i64 a0_4, .int .i64 a0_5, .int .i64 a0_6, .int .i64 a0_7] 23 (0, 0)) (by (with_reducible repeat (first | refine blk_drewN ?_ _ | refine blk_drew ?_ | refine blk_alloc ?_ _)); exact BK501.out)) : gb545 ≠ gb501)); have n12_ := Aside0.mk ((by rw [hg]; exact Nat.ne_of_lt (blk_lt (g := gb507) (o := .cells #[.int .i64 x508000_3, .int .i64 x508001_3, .int .i64 x508002_3, .int .i64 x508003_3, .int .i64 x508004_3, .int .i64 x508005_3, .int .i64 x508006_3, .int .i64 x508007_3, .slice Ao80 x508008_3.length co80] 36 (0, 0)) (by (with_reducible repeat (first | refine blk_drewN ?_ _ | refine blk_drew ?_ | refine blk_alloc ?_ _)); exact BK507.out)) : gb507 ≠ gb545)); have n13_ := Aside0.mk ((by rw [hg]; exact Nat.ne_of_gt (blk_lt (g := gb507) (o := .cells #[.int .i64 x508000_3, .int .i64 x508001_3, .int .i64 x508002_3, .int .i64 x508003_3, .int .i64 x508004_3, .int .i64 x508005_3, .int .i64 x508006_3, .int .i64 x508007_3, .slice Ao80 x508008_3.length co80] 36 (0, 0)) (by (with_reducible repeat (first | refine blk_drewN ?_ _ | refine blk_drew ?_ | refine blk_alloc ?_ _)); exact BK507.out)) : gb545 ≠ gb507)); clear HO_11; clear HO_508008; clear HO541; clear HO544; clear BK501; clear BK507; clear HB; have HO_11 := n0_; have HO_508008 := n1_; have HO541 := n2_; have HO544 := n3_; have BK501 := n4_; have BK507 := n5_; have HB := n6_; have BK545 := n7_; have GW545 := n8_; have GE545 := n9_; have NB501_545 := n10_; have NB545_501 := n11_; have NB507_545 := n12_; have NB545_507 := n13_; clear n0_ n1_ n2_ n3_ n4_ n5_ n6_ n7_ n8_ n9_ n10_ n11_ n12_ n13_; clear hb hbox hg; have hnb83 := NB545_501.out; have hnc83 := NB501_545.out; have hnb84 := NB545_507.out; have hnc84 := NB507_545.out; have hcz85_0 : w82.cell? ⟨gb545, 0, none⟩ = some (.int .i64 0) := (blk_cell BK545.out 0).trans rfl; have hcz85_1 : w82.cell? ⟨gb545, 1, none⟩ = some (.int .i64 0) := (blk_cell BK545.out 1).trans rfl; have hcz85_2 : w82.cell? ⟨gb545, 2, none⟩ = some (.int .i64 0) := (blk_cell BK545.out 2).trans rfl; have hcz85_3 : w82.cell? ⟨gb545, 3, none⟩ = some (.int .i64 0) := (blk_cell BK545.out 3).trans rfl; have hcz85_4 : w82.cell? ⟨gb545, 4, none⟩ = some (.int .i64 0) := (blk_cell BK545.out 4).trans rfl; have hcz85_5 : w82.cell? ⟨gb545, 5, none⟩ = some (.int .i64 0) := (blk_cell BK545.out 5).trans rfl; have hcz85_6 : w82.cell? ⟨gb545, 6, none⟩ = some (.int .i64 0) := (blk_cell BK545.out 6).trans rfl; have hcz85_7 : w82.cell? ⟨gb545, 7, none⟩ = some (.int .i64 0) := (blk_cell BK545.out 7).trans rfl; have hcz85_8 : w82.cell? ⟨gb545, 8, none⟩ = some (.slice none 0 0) := (blk_cell BK545.out 8).trans rfl; have hfz85_0 := blk_frozen BK545.out 0; have hfz85_1 := blk_frozen BK545.out 1; have hfz85_2 := blk_frozen BK545.out 2; have hfz85_3 := blk_frozen BK545.out 3; have hfz85_4 := blk_frozen BK545.out 4; have hfz85_5 := blk_frozen BK545.out 5; have hfz85_6 := blk_frozen BK545.out 6; have hfz85_7 := blk_frozen BK545.out 7; have hfz85_8 := blk_frozen BK545.out 8; obtain ⟨Ao86, co86, eo86⟩ := Kd.N_slice HO541.out; subst eo86; obtain ⟨Ao88, co88, eo88⟩ := Kd.N_slice HO544.out; subst eo88) | ((with_reducible refine gate_builtin (b := .append) (xs := #[.tmp 88, .tmp 89]) rfl ?_); (try (refine gate_guard (by rfl) ?_; dsimp only)); at_builtin; refine Kd.N_append_rows k41 (w0 := w) w.heap.size rfl (.tmp 88) (.tmp 89) 34 41 (.agg #[(.int .i64 0), (.string ⟨#[]⟩), (.string ⟨#[]⟩), (.string ⟨#[]⟩), (.int .i64 0), (.int .i64 0), (.int .i64 0), (.int .i64 0), (.bool false), (.slice none 0 0), (.slice none 0 0)]) 144 rfl Try.underlying34 info41 rfl (by decide) (by omega) u11 x11_3 t542 _ _ _ (fun k_ => some k_ ≠ (.slice Ao86 t539.length co86 : Value).ownBlock ∧ k_ ≠ gb501 ∧ k_ ≠ gb507 ∧ k_ ≠ gb545) (fun k_ => ((fun k_ => some k_ ≠ (.slice Ao86 t539.length co86 : Value).ownBlock ∧ k_ ≠ gb501 ∧ k_ ≠ gb507 ∧ k_ ≠ gb545)) k_ ∧ some k_ ≠ (u11 : Value).ownBlock) rfl rfl ?aO ?aR (fun _ hk => hk) ?aF ?aB ?aS ?aL ?_; (case aR => exact (by skip; have zf620_ := Kd.N_mono HO544.out (fun k_ hk => (⟨hk, hk.2⟩ : _ ∧ k_ ≠ gb545)); exact Kd.N_F (Kd.N_mono (ok' := (fun k_ => ((fun k_ => some k_ ≠ (.slice Ao86 t539.length co86 : Value).ownBlock ∧ k_ ≠ gb501 ∧ k_ ≠ gb507 ∧ k_ ≠ gb545)) k_ ∧ some k_ ≠ (u11 : Value).ownBlock)) (((N_thru7_ zf620_ (by intro zz_; repeat (first | with_reducible exact zz_ | with_reducible refine Kd.N_far ?_ (by first | exact (fun _ hk => hk.2)) _ | with_reducible refine Kd.N_drewN ?_ _ | with_reducible apply Kd.N_drew | with_reducible apply Kd.N_alloc))))) (fun k_ hk => ⟨⟨hk.1.1.1, ⟨hk.1.1.2.2.1, ⟨hk.1.1.2.2.2, hk.1.2⟩⟩⟩, hk.1.1.2.1⟩)))); (case aB => exact (by repeat (first | (with_reducible first | exact HB.out | apply below_alloc | apply pw_below_drewN | apply below_drew1 | refine below_set ?_ GE501.out | refine below_set ?_ GE507.out | refine below_set ?_ GE545.out) | exact HB.out))); (case aF => exact (fun k_ hk => ⟨Kd.fresh' (Kd.N_lt (by (with_reducible repeat (first | apply Kd.N_alloc | apply Kd.N_drewN | apply Kd.N_drew)); have zf630_ := Kd.N_mono HO541.out (fun k_ hk => (⟨hk, hk.2⟩ : _ ∧ k_ ≠ gb545)); exact (Kd.N_mono ((N_thru7_ zf630_ (by intro zz_; repeat (first | with_reducible exact zz_ | with_reducible refine Kd.N_far ?_ (by first | exact (fun _ hk => hk.2)) _ | with_reducible refine Kd.N_drewN ?_ _ | with_reducible apply Kd.N_drew | with_reducible apply Kd.N_alloc)))) (fun _ h_ => h_.1)))) k_ hk, Kd.freshB (g := gb501) (o := .cells #[.int .i64 a0_0, .int .i64 a0_1, .int .i64 a0_2, .int .i64 a0_3, .int .i64 a0_4, .int .i64 a0_5, .int .i64 a0_6, .int .i64 a0_7] 23 (0, 0)) (by (with_reducible repeat (first | refine blk_drewN ?_ _ | refine blk_drew ?_ | refine blk_alloc ?_ _)); (iterate 9 (refine blk_far ?_ NB501_545.out _; (with_reducible repeat (first | refine blk_drewN ?_ _ | refine blk_drew ?_ | refine blk_alloc ?_ _)))); exact BK501.out) k_ hk, Kd.freshB (g := gb507) (o := .cells #[.int .i64 x508000_3, .int .i64 x508001_3, .int .i64 x508002_3, .int .i64 x508003_3, .int .i64 x508004_3, .int .i64 x508005_3, .int .i64 x508006_3, .int .i64 x508007_3, .slice Ao80 x508008_3.length co80] 36 (0, 0)) (by (with_reducible repeat (first | refine blk_drewN ?_ _ | refine blk_drew ?_ | refine blk_alloc ?_ _)); (iterate 9 (refine blk_far ?_ NB507_545.out _; (with_reducible repeat (first | refine blk_drewN ?_ _ | refine blk_drew ?_ | refine blk_alloc ?_ _)))); exact BK507.out) k_ hk, Kd.freshB (g := gb545) (o := .cells #[.int .i64 t531, .int .i64 t532, .int .i64 t533, .int .i64 t534, .int .i64 t535, .int .i64 t536, .int .i64 t537, .int .i64 t538, .slice Ao86 t539.length co86] 36 (0, 0)) (by (with_reducible repeat (first | refine blk_drewN ?_ _ | refine blk_drew ?_ | refine blk_alloc ?_ _)); refine blk_put (cs := #[.int .i64 t531, .int .i64 t532, .int .i64 t533, .int .i64 t534, .int .i64 t535, .int .i64 t536, .int .i64 t537, .int .i64 t538, .slice none 0 0]) ?_ 8 _ rfl; (with_reducible repeat (first | refine blk_drewN ?_ _ | refine blk_drew ?_ | refine blk_alloc ?_ _)); refine blk_put (cs := #[.int .i64 t531, .int .i64 t532, .int .i64 t533, .int .i64 t534, .int .i64 t535, .int .i64 t536, .int .i64 t537, .int .i64 0, .slice none 0 0]) ?_ 7 _ rfl; (with_reducible repeat (first | refine blk_drewN ?_ _ | refine blk_drew ?_ | refine blk_alloc ?_ _)); refine blk_put (cs := #[.int .i64 t531, .int .i64 t532, .int .i64 t533, .int .i64 t534, .int .i64 t535, .int .i64 t536, .int .i64 0, .int .i64 0, .slice none 0 0]) ?_ 6 _ rfl; (with_reducible repeat (first | refine blk_drewN ?_ _ | refine blk_drew ?_ | refine blk_alloc ?_ _)); refine blk_put (cs := #[.int .i64 t531, .int .i64 t532, .int .i64 t533, .int .i64 t534, .int .i64 t535, .int .i64 0, .int .i64 0, .int .i64 0, .slice none 0 0]) ?_ 5 _ rfl; (with_reducible repeat (first | refine blk_drewN ?_ _ | refine blk_drew ?_ | refine blk_alloc ?_ _)); refine blk_put (cs := #[.int .i64 t531, .int .i64 t532, .int .i64 t533, .int .i64 t534, .int .i64 0, .int .i64 0, .int .i64 0, .int .i64 0, .slice none 0 0]) ?_ 4 _ rfl; (with_reducible repeat (first | refine blk_drewN ?_ _ | refine blk_drew ?_ | refine blk_alloc ?_ _)); refine blk_put (cs := #[.int .i64 t531, .int .i64 t532, .int .i64 t533, .int .i64 0, .int .i64 0, .int .i64 0, .int .i64 0, .int .i64 0, .slice none 0 0]) ?_ 3 _ rfl; (with_reducible repeat (first | refine blk_drewN ?_ _ | refine blk_drew ?_ | refine blk_alloc ?_ _)); refine blk_put (cs := #[.int .i64 t531, .int .i64 t532, .int .i64 0, .int .i64 0, .int .i64 0, .int .i64 0, .int .i64 0, .int .i64 0, .slice none 0 0]) ?_ 2 _ rfl; (with_reducible repeat (first | refine blk_drewN ?_ _ | refine blk_drew ?_ | refine blk_alloc ?_ _)); refine blk_put (cs := #[.int .i64 t531, .int .i64 0, .int .i64 0, .int .i64 0, .int .i64 0, .int .i64 0, .int .i64 0, .int .i64 0, .slice none 0 0]) ?_ 1 _ rfl; (with_reducible repeat (first | refine blk_drewN ?_ _ | refine blk_drew ?_ | refine blk_alloc ?_ _)); refine blk_put (cs := #[.int .i64 0, .int .i64 0, .int .i64 0, .int .i64 0, .int .i64 0, .int .i64 0, .int .i64 0, .int .i64 0, .slice none 0 0]) ?_ 0 _ rfl; (with_reducible repeat (first | refine blk_drewN ?_ _ | refine blk_drew ?_ | refine blk_alloc ?_ _)); exact BK545.out) k_ hk⟩)); (case aO => exact (by (with_reducible repeat (first | apply Kd.N_alloc | apply Kd.N_drewN | apply Kd.N_drew)); have zf640_ := Kd.N_mono HO_11.out (fun k_ hk => (⟨hk, hk.2⟩ : _ ∧ k_ ≠ gb545)); exact Kd.N_mono ((N_thru7_ zf640_ (by intro zz_; repeat (first | with_reducible exact zz_ | with_reducible refine Kd.N_far ?_ (by first | exact (fun _ hk => hk.2)) _ | with_reducible refine Kd.N_drewN ?_ _ | with_reducible apply Kd.N_drew | with_reducible apply Kd.N_alloc)))) (fun _ hk => ⟨hk.1.1.1.2, ⟨hk.1.1.1.1.1, ⟨hk.1.1.1.1.2, hk.1.2⟩⟩⟩))); (case aS => exact (below_size (by repeat (first | (with_reducible first | exact HB.out | apply below_alloc | apply pw_below_drewN | apply below_drew1 | refine below_set ?_ GE501.out | refine below_set ?_ GE507.out | refine below_set ?_ GE545.out) | exact HB.out)))); (case aL => have := LMc70.out; omega); intro v547 w87 ho hb hg hat; rw [← Ny546.out] at ho; have n0_ := Aside0.mk (Kd.V_afterv (ok := (fun k_ => some k_ ≠ (.slice Ao86 t539.length co86 : Value).ownBlock ∧ some k_ ≠ (.slice Ao88 t542.length co88 : Value).ownBlock ∧ k_ ≠ gb501 ∧ k_ ≠ gb507 ∧ k_ ≠ gb545)) (by (with_reducible repeat (first | apply Kd.V_alloc | apply Kd.V_drewN | apply Kd.V_drew)); have zf650_ := Kd.V_mono HO_508008.out (fun k_ hk => (⟨hk, hk.2⟩ : _ ∧ k_ ≠ gb545)); exact Kd.V_mono ((V_thru7_ zf650_ (by intro zz_; repeat (first | with_reducible exact zz_ | with_reducible refine Kd.V_far ?_ (by first | exact (fun _ hk => hk.2)) _ | with_reducible refine Kd.V_drewN ?_ _ | with_reducible apply Kd.V_drew | with_reducible apply Kd.V_alloc)))) (fun _ hk => ⟨⟨hk.1.1.1.2, ⟨hk.1.1.2, ⟨hk.1.1.1.1.2.1, ⟨hk.1.1.1.1.2.2, hk.1.2⟩⟩⟩⟩, hk.1.1.1.1.1⟩)) hg hat); have n1_ := Aside0.mk (blk_grown (g := gb501) (o := .cells #[.int .i64 a0_0, .int .i64 a0_1, .int .i64 a0_2, .int .i64 a0_3, .int .i64 a0_4, .int .i64 a0_5, .int .i64 a0_6, .int .i64 a0_7] 23 (0, 0)) (by (with_reducible repeat (first | refine blk_drewN ?_ _ | refine blk_drew ?_ | refine blk_alloc ?_ _)); (iterate 9 (refine blk_far ?_ NB501_545.out _; (with_reducible repeat (first | refine blk_drewN ?_ _ | refine blk_drew ?_ | refine blk_alloc ?_ _)))); exact BK501.out) hg (Kd.N_ne HO_11.out BK501.out (by decide))); have n2_ := Aside0.mk (blk_grown (g := gb507) (o := .cells #[.int .i64 x508000_3, .int .i64 x508001_3, .int .i64 x508002_3, .int .i64 x508003_3, .int .i64 x508004_3, .int .i64 x508005_3, .int .i64 x508006_3, .int .i64 x508007_3, .slice Ao80 x508008_3.length co80] 36 (0, 0)) (by (with_reducible repeat (first | refine blk_drewN ?_ _ | refine blk_drew ?_ | refine blk_alloc ?_ _)); (iterate 9 (refine blk_far ?_ NB507_545.out _; (with_reducible repeat (first | refine blk_drewN ?_ _ | refine blk_drew ?_ | refine blk_alloc ?_ _)))); exact BK507.out) hg (Kd.N_ne HO_11.out BK507.out (by decide))); have n3_ := Aside0.mk (Kd.N_afterv (ok := (fun k_ => some k_ ≠ (.slice Ao88 t542.length co88 : Value).ownBlock ∧ k_ ≠ gb501 ∧ k_ ≠ gb507 ∧ k_ ≠ gb545)) (by (with_reducible repeat (first | apply Kd.N_alloc | apply Kd.N_drewN | apply Kd.N_drew)); have zf660_ := Kd.N_mono HO541.out (fun k_ hk => (⟨hk, hk.2⟩ : _ ∧ k_ ≠ gb545)); exact Kd.N_mono ((N_thru7_ zf660_ (by intro zz_; repeat (first | with_reducible exact zz_ | with_reducible refine Kd.N_far ?_ (by first | exact (fun _ hk => hk.2)) _ | with_reducible refine Kd.N_drewN ?_ _ | with_reducible apply Kd.N_drew | with_reducible apply Kd.N_alloc)))) (fun _ hk => ⟨⟨hk.1.1.1, ⟨hk.1.1.2.2.1, ⟨hk.1.1.2.2.2, hk.1.2⟩⟩⟩, hk.1.1.2.1⟩)) hg hat); have n4_ := Aside0.mk (Kd.N_afterv (ok := (fun k_ => some k_ ≠ (.slice Ao86 t539.length co86 : Value).ownBlock ∧ k_ ≠ gb501 ∧ k_ ≠ gb507 ∧ k_ ≠ gb545)) (by (with_reducible repeat (first | apply Kd.N_alloc | apply Kd.N_drewN | apply Kd.N_drew)); have zf670_ := Kd.N_mono HO544.out (fun k_ hk => (⟨hk, hk.2⟩ : _ ∧ k_ ≠ gb545)); exact Kd.N_mono ((N_thru7_ zf670_ (by intro zz_; repeat (first | with_reducible exact zz_ | with_reducible refine Kd.N_far ?_ (by first | exact (fun _ hk => hk.2)) _ | with_reducible refine Kd.N_drewN ?_ _ | with_reducible apply Kd.N_drew | with_reducible apply Kd.N_alloc)))) (fun _ hk => ⟨⟨hk.1.1.1, ⟨hk.1.1.2.2.1, ⟨hk.1.1.2.2.2, hk.1.2⟩⟩⟩, hk.1.1.2.1⟩)) hg hat); have n5_ := Aside0.mk (blk_grown (g := gb545) (o := .cells #[.int .i64 t531, .int .i64 t532, .int .i64 t533, .int .i64 t534, .int .i64 t535, .int .i64 t536, .int .i64 t537, .int .i64 t538, .slice Ao86 t539.length co86] 36 (0, 0)) (by (with_reducible repeat (first | refine blk_drewN ?_ _ | refine blk_drew ?_ | refine blk_alloc ?_ _)); refine blk_put (cs := #[.int .i64 t531, .int .i64 t532, .int .i64 t533, .int .i64 t534, .int .i64 t535, .int .i64 t536, .int .i64 t537, .int .i64 t538, .slice none 0 0]) ?_ 8 _ rfl; (with_reducible repeat (first | refine blk_drewN ?_ _ | refine blk_drew ?_ | refine blk_alloc ?_ _)); refine blk_put (cs := #[.int .i64 t531, .int .i64 t532, .int .i64 t533, .int .i64 t534, .int .i64 t535, .int .i64 t536, .int .i64 t537, .int .i64 0, .slice none 0 0]) ?_ 7 _ rfl; (with_reducible repeat (first | refine blk_drewN ?_ _ | refine blk_drew ?_ | refine blk_alloc ?_ _)); refine blk_put (cs := #[.int .i64 t531, .int .i64 t532, .int .i64 t533, .int .i64 t534, .int .i64 t535, .int .i64 t536, .int .i64 0, .int .i64 0, .slice none 0 0]) ?_ 6 _ rfl; (with_reducible repeat (first | refine blk_drewN ?_ _ | refine blk_drew ?_ | refine blk_alloc ?_ _)); refine blk_put (cs := #[.int .i64 t531, .int .i64 t532, .int .i64 t533, .int .i64 t534, .int .i64 t535, .int .i64 0, .int .i64 0, .int .i64 0, .slice none 0 0]) ?_ 5 _ rfl; (with_reducible repeat (first | refine blk_drewN ?_ _ | refine blk_drew ?_ | refine blk_alloc ?_ _)); refine blk_put (cs := #[.int .i64 t531, .int .i64 t532, .int .i64 t533, .int .i64 t534, .int .i64 0, .int .i64 0, .int .i64 0, .int .i64 0, .slice none 0 0]) ?_ 4 _ rfl; (with_reducible repeat (first | refine blk_drewN ?_ _ | refine blk_drew ?_ | refine blk_alloc ?_ _)); refine blk_put (cs := #[.int .i64 t531, .int .i64 t532, .int .i64 t533, .int .i64 0, .int .i64 0, .int .i64 0, .int .i64 0, .int .i64 0, .slice none 0 0]) ?_ 3 _ rfl; (with_reducible repeat (first | refine blk_drewN ?_ _ | refine blk_drew ?_ | refine blk_alloc ?_ _)); refine blk_put (cs := #[.int .i64 t531, .int .i64 t532, .int .i64 0, .int .i64 0, .int .i64 0, .int .i64 0, .int .i64 0, .int .i64 0, .slice none 0 0]) ?_ 2 _ rfl; (with_reducible repeat (first | refine blk_drewN ?_ _ | refine blk_drew ?_ | refine blk_alloc ?_ _)); refine blk_put (cs := #[.int .i64 t531, .int .i64 0, .int .i64 0, .int .i64 0, .int .i64 0, .int .i64 0, .int .i64 0, .int .i64 0, .slice none 0 0]) ?_ 1 _ rfl; (with_reducible repeat (first | refine blk_drewN ?_ _ | refine blk_drew ?_ | refine blk_alloc ?_ _)); refine blk_put (cs := #[.int .i64 0, .int .i64 0, .int .i64 0, .int .i64 0, .int .i64 0, .int .i64 0, .int .i64 0, .int .i64 0, .slice none 0 0]) ?_ 0 _ rfl; (with_reducible repeat (first | refine blk_drewN ?_ _ | refine blk_drew ?_ | refine blk_alloc ?_ _)); exact BK545.out) hg (Kd.N_ne HO_11.out BK545.out (by decide))); have n6_ := Aside0.mk (hb); have n7_ := Aside0.mk (ho); clear HO_508008; clear BK501; clear BK507; clear HO541; clear HO544; clear BK545; clear HB; clear HO_11; have HO_508008 := n0_; have BK501 := n1_; have BK507 := n2_; have HO541 := n3_; have HO544 := n4_; have BK545 := n5_; have HB := n6_; have HO548 := n7_; clear n0_ n1_ n2_ n3_ n4_ n5_ n6_ n7_; clear ho hb hg hat; have hcz89_0 : w87.cell? ⟨gb545, 0, none⟩ = some (.int .i64 t531) := (blk_cell BK545.out 0).trans rfl; have hcz89_1 : w87.cell? ⟨gb545, 1, none⟩ = some (.int .i64 t532) := (blk_cell BK545.out 1).trans rfl; have hcz89_2 : w87.cell? ⟨gb545, 2, none⟩ = some (.int .i64 t533) := (blk_cell BK545.out 2).trans rfl; have hcz89_3 : w87.cell? ⟨gb545, 3, none⟩ = some (.int .i64 t534) := (blk_cell BK545.out 3).trans rfl; have hcz89_4 : w87.cell? ⟨gb545, 4, none⟩ = some (.int .i64 t535) := (blk_cell BK545.out 4).trans rfl; have hcz89_5 : w87.cell? ⟨gb545, 5, none⟩ = some (.int .i64 t536) := (blk_cell BK545.out 5).trans rfl; have hcz89_6 : w87.cell? ⟨gb545, 6, none⟩ = some (.int .i64 t537) := (blk_cell BK545.out 6).trans rfl; have hcz89_7 : w87.cell? ⟨gb545, 7, none⟩ = some (.int .i64 t538) := (blk_cell BK545.out 7).trans rfl; have hcz89_8 : w87.cell? ⟨gb545, 8, none⟩ = some (.slice Ao86 t539.length co86) := (blk_cell BK545.out 8).trans rfl; have hfz89_0 := blk_frozen BK545.out 0; have hfz89_1 := blk_frozen BK545.out 1; have hfz89_2 := blk_frozen BK545.out 2; have hfz89_3 := blk_frozen BK545.out 3; have hfz89_4 := blk_frozen BK545.out 4; have hfz89_5 := blk_frozen BK545.out 5; have hfz89_6 := blk_frozen BK545.out 6; have hfz89_7 := blk_frozen BK545.out 7; have hfz89_8 := blk_frozen BK545.out 8; have hcz90_0 : w87.cell? ⟨gb507, 0, none⟩ = some (.int .i64 x508000_3) := (blk_cell BK507.out 0).trans rfl; have hcz90_1 : w87.cell? ⟨gb507, 1, none⟩ = some (.int .i64 x508001_3) := (blk_cell BK507.out 1).trans rfl; have hcz90_2 : w87.cell? ⟨gb507, 2, none⟩ = some (.int .i64 x508002_3) := (blk_cell BK507.out 2).trans rfl; have hcz90_3 : w87.cell? ⟨gb507, 3, none⟩ = some (.int .i64 x508003_3) := (blk_cell BK507.out 3).trans rfl; have hcz90_4 : w87.cell? ⟨gb507, 4, none⟩ = some (.int .i64 x508004_3) := (blk_cell BK507.out 4).trans rfl; have hcz90_5 : w87.cell? ⟨gb507, 5, none⟩ = some (.int .i64 x508005_3) := (blk_cell BK507.out 5).trans rfl; have hcz90_6 : w87.cell? ⟨gb507, 6, none⟩ = some (.int .i64 x508006_3) := (blk_cell BK507.out 6).trans rfl; have hcz90_7 : w87.cell? ⟨gb507, 7, none⟩ = some (.int .i64 x508007_3) := (blk_cell BK507.out 7).trans rfl; have hcz90_8 : w87.cell? ⟨gb507, 8, none⟩ = some (.slice Ao80 x508008_3.length co80) := (blk_cell BK507.out 8).trans rfl; have hfz90_0 := blk_frozen BK507.out 0; have hfz90_1 := blk_frozen BK507.out 1; have hfz90_2 := blk_frozen BK507.out 2; have hfz90_3 := blk_frozen BK507.out 3; have hfz90_4 := blk_frozen BK507.out 4; have hfz90_5 := blk_frozen BK507.out 5; have hfz90_6 := blk_frozen BK507.out 6; have hfz90_7 := blk_frozen BK507.out 7; have hfz90_8 := blk_frozen BK507.out 8) | ((with_reducible refine gate_callee (f := 20) rfl ?_); refine goesL_ (some 105) rfl rfl Try.func20 (by kernel_rfl) rfl #[.agg #[.int .i64 t531, .int .i64 t532, .int .i64 t533, .int .i64 t534, .int .i64 t535, .int .i64 t536, .int .i64 t537, .int .i64 t538], .int .i64 x2_3] rfl (by (try simp only [List.map_toArray, List.map_cons, List.map_nil]); first | done | rfl | (simp only [List.length_drop, List.length_take]; rfl)) ?_; (with_reducible refine (rate_Wait.calls kj62 t531 t532 t533 t534 t535 t536 t537 t538 x2_3 t549 _ A72.out).mono ?_); rintro e w91 ⟨rfl, hb⟩; refine ⟨_, rfl, ?_⟩; have n0_ := Aside0.mk (Kd.V_below (by (with_reducible repeat (first | apply Kd.V_alloc | apply Kd.V_drewN | apply Kd.V_drew)); have zf680_ := Kd.V_mono HO_508008.out (fun k_ hk => (⟨hk, hk.1.2.2.2.1⟩ : _ ∧ k_ ≠ gb507)); exact (Kd.V_mono ((V_thru7_ zf680_ (by intro zz_; repeat (first | with_reducible exact zz_ | with_reducible refine Kd.V_far ?_ (by first | exact (fun _ hk => hk.2)) _ | with_reducible refine Kd.V_drewN ?_ _ | with_reducible apply Kd.V_drew | with_reducible apply Kd.V_alloc)))) (fun _ h_ => h_.1))) hb); have n1_ := Aside0.mk (Kd.N_below (by (with_reducible repeat (first | apply Kd.N_alloc | apply Kd.N_drewN | apply Kd.N_drew)); have zf690_ := Kd.N_mono HO541.out (fun k_ hk => (⟨hk, hk.1.2.2.1⟩ : _ ∧ k_ ≠ gb507)); exact (Kd.N_mono ((N_thru7_ zf690_ (by intro zz_; repeat (first | with_reducible exact zz_ | with_reducible refine Kd.N_far ?_ (by first | exact (fun _ hk => hk.2)) _ | with_reducible refine Kd.N_drewN ?_ _ | with_reducible apply Kd.N_drew | with_reducible apply Kd.N_alloc)))) (fun _ h_ => h_.1))) hb); have n2_ := Aside0.mk (Kd.N_below (by (with_reducible repeat (first | apply Kd.N_alloc | apply Kd.N_drewN | apply Kd.N_drew)); have zf700_ := Kd.N_mono HO544.out (fun k_ hk => (⟨hk, hk.1.2.2.1⟩ : _ ∧ k_ ≠ gb507)); exact (Kd.N_mono ((N_thru7_ zf700_ (by intro zz_; repeat (first | with_reducible exact zz_ | with_reducible refine Kd.N_far ?_ (by first | exact (fun _ hk => hk.2)) _ | with_reducible refine Kd.N_drewN ?_ _ | with_reducible apply Kd.N_drew | with_reducible apply Kd.N_alloc)))) (fun _ h_ => h_.1))) hb); have n3_ := Aside0.mk (Kd.N_below (by (with_reducible repeat (first | apply Kd.N_alloc | apply Kd.N_drewN | apply Kd.N_drew)); have zf710_ := Kd.N_mono HO548.out (fun k_ hk => (⟨hk, hk.2.2.1⟩ : _ ∧ k_ ≠ gb507)); exact (Kd.N_mono ((N_thru7_ zf710_ (by intro zz_; repeat (first | with_reducible exact zz_ | with_reducible refine Kd.N_far ?_ (by first | exact (fun _ hk => hk.2)) _ | with_reducible refine Kd.N_drewN ?_ _ | with_reducible apply Kd.N_drew | with_reducible apply Kd.N_alloc)))) (fun _ h_ => h_.1))) hb); have n4_ := Aside0.mk (blk_below (g := gb501) (o := .cells #[.int .i64 a0_0, .int .i64 a0_1, .int .i64 a0_2, .int .i64 a0_3, .int .i64 a0_4, .int .i64 a0_5, .int .i64 a0_6, .int .i64 a0_7] 23 (0, 0)) (by (with_reducible repeat (first | refine blk_drewN ?_ _ | refine blk_drew ?_ | refine blk_alloc ?_ _)); (iterate 9 (refine blk_far ?_ NB501_507.out _; (with_reducible repeat (first | refine blk_drewN ?_ _ | refine blk_drew ?_ | refine blk_alloc ?_ _)))); exact BK501.out) hb); have n5_ := Aside0.mk (blk_below (g := gb507) (o := .cells #[.int .i64 t531, .int .i64 t532, .int .i64 t533, .int .i64 t534, .int .i64 t535, .int .i64 t536, .int .i64 t537, .int .i64 t538, .slice Ao86 t539.length co86] 36 (0, 0)) (by (with_reducible repeat (first | refine blk_drewN ?_ _ | refine blk_drew ?_ | refine blk_alloc ?_ _)); refine blk_put (cs := #[.int .i64 t531, .int .i64 t532, .int .i64 t533, .int .i64 t534, .int .i64 t535, .int .i64 t536, .int .i64 t537, .int .i64 t538, .slice Ao80 x508008_3.length co80]) ?_ 8 _ rfl; (with_reducible repeat (first | refine blk_drewN ?_ _ | refine blk_drew ?_ | refine blk_alloc ?_ _)); refine blk_put (cs := #[.int .i64 t531, .int .i64 t532, .int .i64 t533, .int .i64 t534, .int .i64 t535, .int .i64 t536, .int .i64 t537, .int .i64 x508007_3, .slice Ao80 x508008_3.length co80]) ?_ 7 _ rfl; (with_reducible repeat (first | refine blk_drewN ?_ _ | refine blk_drew ?_ | refine blk_alloc ?_ _)); refine blk_put (cs := #[.int .i64 t531, .int .i64 t532, .int .i64 t533, .int .i64 t534, .int .i64 t535, .int .i64 t536, .int .i64 x508006_3, .int .i64 x508007_3, .slice Ao80 x508008_3.length co80]) ?_ 6 _ rfl; (with_reducible repeat (first | refine blk_drewN ?_ _ | refine blk_drew ?_ | refine blk_alloc ?_ _)); refine blk_put (cs := #[.int .i64 t531, .int .i64 t532, .int .i64 t533, .int .i64 t534, .int .i64 t535, .int .i64 x508005_3, .int .i64 x508006_3, .int .i64 x508007_3, .slice Ao80 x508008_3.length co80]) ?_ 5 _ rfl; (with_reducible repeat (first | refine blk_drewN ?_ _ | refine blk_drew ?_ | refine blk_alloc ?_ _)); refine blk_put (cs := #[.int .i64 t531, .int .i64 t532, .int .i64 t533, .int .i64 t534, .int .i64 x508004_3, .int .i64 x508005_3, .int .i64 x508006_3, .int .i64 x508007_3, .slice Ao80 x508008_3.length co80]) ?_ 4 _ rfl; (with_reducible repeat (first | refine blk_drewN ?_ _ | refine blk_drew ?_ | refine blk_alloc ?_ _)); refine blk_put (cs := #[.int .i64 t531, .int .i64 t532, .int .i64 t533, .int .i64 x508003_3, .int .i64 x508004_3, .int .i64 x508005_3, .int .i64 x508006_3, .int .i64 x508007_3, .slice Ao80 x508008_3.length co80]) ?_ 3 _ rfl; (with_reducible repeat (first | refine blk_drewN ?_ _ | refine blk_drew ?_ | refine blk_alloc ?_ _)); refine blk_put (cs := #[.int .i64 t531, .int .i64 t532, .int .i64 x508002_3, .int .i64 x508003_3, .int .i64 x508004_3, .int .i64 x508005_3, .int .i64 x508006_3, .int .i64 x508007_3, .slice Ao80 x508008_3.length co80]) ?_ 2 _ rfl; (with_reducible repeat (first | refine blk_drewN ?_ _ | refine blk_drew ?_ | refine blk_alloc ?_ _)); refine blk_put (cs := #[.int .i64 t531, .int .i64 x508001_3, .int .i64 x508002_3, .int .i64 x508003_3, .int .i64 x508004_3, .int .i64 x508005_3, .int .i64 x508006_3, .int .i64 x508007_3, .slice Ao80 x508008_3.length co80]) ?_ 1 _ rfl; (with_reducible repeat (first | refine blk_drewN ?_ _ | refine blk_drew ?_ | refine blk_alloc ?_ _)); refine blk_put (cs := #[.int .i64 x508000_3, .int .i64 x508001_3, .int .i64 x508002_3, .int .i64 x508003_3, .int .i64 x508004_3, .int .i64 x508005_3, .int .i64 x508006_3, .int .i64 x508007_3, .slice Ao80 x508008_3.length co80]) ?_ 0 _ rfl; (with_reducible repeat (first | refine blk_drewN ?_ _ | refine blk_drew ?_ | refine blk_alloc ?_ _)); exact BK507.out) hb); have n6_ := Aside0.mk (blk_below (g := gb545) (o := .cells #[.int .i64 t531, .int .i64 t532, .int .i64 t533, .int .i64 t534, .int .i64 t535, .int .i64 t536, .int .i64 t537, .int .i64 t538, .slice Ao86 t539.length co86] 36 (0, 0)) (by (with_reducible repeat (first | refine blk_drewN ?_ _ | refine blk_drew ?_ | refine blk_alloc ?_ _)); (iterate 9 (refine blk_far ?_ NB545_507.out _; (with_reducible repeat (first | refine blk_drewN ?_ _ | refine blk_drew ?_ | refine blk_alloc ?_ _)))); exact BK545.out) hb); have n7_ := Aside0.mk (below_step (by repeat (first | (with_reducible first | exact HB.out | apply below_alloc | apply pw_below_drewN | apply below_drew1 | refine below_set ?_ GE501.out | refine below_set ?_ GE507.out | refine below_set ?_ GE545.out) | exact HB.out)) hb); clear HO_508008; clear HO541; clear HO544; clear HO548; clear BK501; clear BK507; clear BK545; clear HB; have HO_508008 := n0_; have HO541 := n1_; have HO544 := n2_; have HO548 := n3_; have BK501 := n4_; have BK507 := n5_; have BK545 := n6_; have HB := n7_; clear n0_ n1_ n2_ n3_ n4_ n5_ n6_ n7_; (try clear hb); (try clear hb2); (try clear hk); (try clear hi); have hcz92_0 : w91.cell? ⟨gb507, 0, none⟩ = some (.int .i64 t531) := (blk_cell BK507.out 0).trans rfl; have hcz92_1 : w91.cell? ⟨gb507, 1, none⟩ = some (.int .i64 t532) := (blk_cell BK507.out 1).trans rfl; have hcz92_2 : w91.cell? ⟨gb507, 2, none⟩ = some (.int .i64 t533) := (blk_cell BK507.out 2).trans rfl; have hcz92_3 : w91.cell? ⟨gb507, 3, none⟩ = some (.int .i64 t534) := (blk_cell BK507.out 3).trans rfl; have hcz92_4 : w91.cell? ⟨gb507, 4, none⟩ = some (.int .i64 t535) := (blk_cell BK507.out 4).trans rfl; have hcz92_5 : w91.cell? ⟨gb507, 5, none⟩ = some (.int .i64 t536) := (blk_cell BK507.out 5).trans rfl; have hcz92_6 : w91.cell? ⟨gb507, 6, none⟩ = some (.int .i64 t537) := (blk_cell BK507.out 6).trans rfl; have hcz92_7 : w91.cell? ⟨gb507, 7, none⟩ = some (.int .i64 t538) := (blk_cell BK507.out 7).trans rfl; have hcz92_8 : w91.cell? ⟨gb507, 8, none⟩ = some (.slice Ao86 t539.length co86) := (blk_cell BK507.out 8).trans rfl; have hfz92_0 := blk_frozen BK507.out 0; have hfz92_1 := blk_frozen BK507.out 1; have hfz92_2 := blk_frozen BK507.out 2; have hfz92_3 := blk_frozen BK507.out 3; have hfz92_4 := blk_frozen BK507.out 4; have hfz92_5 := blk_frozen BK507.out 5; have hfz92_6 := blk_frozen BK507.out 6; have hfz92_7 := blk_frozen BK507.out 7; have hfz92_8 := blk_frozen BK507.out 8) | ((with_reducible refine gate_builtin (b := .append) (xs := #[.tmp 113, .tmp 115]) rfl ?_); (try (refine gate_guard (by rfl) ?_; dsimp only)); at_builtin; refine Kd.N_append_rows k41 (w0 := w) w.heap.size rfl (.tmp 113) (.tmp 115) 34 41 (.agg #[(.int .i64 0), (.string ⟨#[]⟩), (.string ⟨#[]⟩), (.string ⟨#[]⟩), (.int .i64 0), (.int .i64 0), (.int .i64 0), (.int .i64 0), (.bool false), (.slice none 0 0), (.slice none 0 0)]) 144 rfl Try.underlying34 info41 rfl (by decide) (by omega) v547 y546 t539 _ _ _ (fun k_ => k_ ≠ gb501 ∧ k_ ≠ gb507 ∧ k_ ≠ gb545) (fun k_ => ((fun k_ => k_ ≠ gb501 ∧ k_ ≠ gb507 ∧ k_ ≠ gb545)) k_ ∧ some k_ ≠ (v547 : Value).ownBlock) rfl rfl ?aO ?aR (fun _ hk => hk) ?aF ?aB ?aS ?aL ?_; (case aR => exact (by skip; exact Kd.N_F (Kd.N_mono (ok' := (fun k_ => ((fun k_ => k_ ≠ gb501 ∧ k_ ≠ gb507 ∧ k_ ≠ gb545)) k_ ∧ some k_ ≠ (v547 : Value).ownBlock)) (HO541.out) (fun k_ hk => ⟨⟨hk.1.2.1, ⟨hk.1.2.2.1, hk.1.2.2.2⟩⟩, hk.2⟩)))); (case aB => exact (by repeat (first | (with_reducible first | exact HB.out | apply below_alloc | apply pw_below_drewN | apply below_drew1 | refine below_set ?_ GE501.out | refine below_set ?_ GE507.out | refine below_set ?_ GE545.out) | exact HB.out))); (case aF => exact (fun k_ hk => ⟨Kd.freshB (g := gb501) (o := .cells #[.int .i64 a0_0, .int .i64 a0_1, .int .i64 a0_2, .int .i64 a0_3, .int .i64 a0_4, .int .i64 a0_5, .int .i64 a0_6, .int .i64 a0_7] 23 (0, 0)) (by (with_reducible repeat (first | refine blk_drewN ?_ _ | refine blk_drew ?_ | refine blk_alloc ?_ _)); exact BK501.out) k_ hk, Kd.freshB (g := gb507) (o := .cells #[.int .i64 t531, .int .i64 t532, .int .i64 t533, .int .i64 t534, .int .i64 t535, .int .i64 t536, .int .i64 t537, .int .i64 t538, .slice Ao86 t539.length co86] 36 (0, 0)) (by (with_reducible repeat (first | refine blk_drewN ?_ _ | refine blk_drew ?_ | refine blk_alloc ?_ _)); exact BK507.out) k_ hk, Kd.freshB (g := gb545) (o := .cells #[.int .i64 t531, .int .i64 t532, .int .i64 t533, .int .i64 t534, .int .i64 t535, .int .i64 t536, .int .i64 t537, .int .i64 t538, .slice Ao86 t539.length co86] 36 (0, 0)) (by (with_reducible repeat (first | refine blk_drewN ?_ _ | refine blk_drew ?_ | refine blk_alloc ?_ _)); exact BK545.out) k_ hk⟩)); (case aO => exact (by (with_reducible repeat (first | apply Kd.N_alloc | apply Kd.N_drewN | apply Kd.N_drew)); exact Kd.N_mono HO548.out (fun _ hk => ⟨hk.2.1, ⟨hk.2.2.1, hk.2.2.2⟩⟩))); (case aS => exact (below_size (by repeat (first | (with_reducible first | exact HB.out | apply below_alloc | apply pw_below_drewN | apply below_drew1 | refine below_set ?_ GE501.out | refine below_set ?_ GE507.out | refine below_set ?_ GE545.out) | exact HB.out)))); (case aL => have := LMc74.out; omega); intro v551 w93 ho hb hg hat; rw [← Ny550.out] at ho; have n0_ := Aside0.mk (Kd.V_afterv (ok := (fun k_ => some k_ ≠ (.slice Ao86 t539.length co86 : Value).ownBlock ∧ some k_ ≠ (.slice Ao88 t542.length co88 : Value).ownBlock ∧ k_ ≠ gb501 ∧ k_ ≠ gb507 ∧ k_ ≠ gb545)) (by (with_reducible repeat (first | apply Kd.V_alloc | apply Kd.V_drewN | apply Kd.V_drew)); exact HO_508008.out) hg hat); have n1_ := Aside0.mk (blk_grown (g := gb501) (o := .cells #[.int .i64 a0_0, .int .i64 a0_1, .int .i64 a0_2, .int .i64 a0_3, .int .i64 a0_4, .int .i64 a0_5, .int .i64 a0_6, .int .i64 a0_7] 23 (0, 0)) (by (with_reducible repeat (first | refine blk_drewN ?_ _ | refine blk_drew ?_ | refine blk_alloc ?_ _)); exact BK501.out) hg (Kd.N_ne HO548.out BK501.out (by decide))); have n2_ := Aside0.mk (blk_grown (g := gb507) (o := .cells #[.int .i64 t531, .int .i64 t532, .int .i64 t533, .int .i64 t534, .int .i64 t535, .int .i64 t536, .int .i64 t537, .int .i64 t538, .slice Ao86 t539.length co86] 36 (0, 0)) (by (with_reducible repeat (first | refine blk_drewN ?_ _ | refine blk_drew ?_ | refine blk_alloc ?_ _)); exact BK507.out) hg (Kd.N_ne HO548.out BK507.out (by decide))); have n3_ := Aside0.mk (Kd.N_afterv (ok := (fun k_ => some k_ ≠ (.slice Ao88 t542.length co88 : Value).ownBlock ∧ k_ ≠ gb501 ∧ k_ ≠ gb507 ∧ k_ ≠ gb545)) (by (with_reducible repeat (first | apply Kd.N_alloc | apply Kd.N_drewN | apply Kd.N_drew)); exact HO541.out) hg hat); have n4_ := Aside0.mk (Kd.N_afterv (ok := (fun k_ => some k_ ≠ (.slice Ao86 t539.length co86 : Value).ownBlock ∧ k_ ≠ gb501 ∧ k_ ≠ gb507 ∧ k_ ≠ gb545)) (by (with_reducible repeat (first | apply Kd.N_alloc | apply Kd.N_drewN | apply Kd.N_drew)); exact HO544.out) hg hat); have n5_ := Aside0.mk (blk_grown (g := gb545) (o := .cells #[.int .i64 t531, .int .i64 t532, .int .i64 t533, .int .i64 t534, .int .i64 t535, .int .i64 t536, .int .i64 t537, .int .i64 t538, .slice Ao86 t539.length co86] 36 (0, 0)) (by (with_reducible repeat (first | refine blk_drewN ?_ _ | refine blk_drew ?_ | refine blk_alloc ?_ _)); exact BK545.out) hg (Kd.N_ne HO548.out BK545.out (by decide))); have n6_ := Aside0.mk (hb); have n7_ := Aside0.mk (ho); clear HO_508008; clear BK501; clear BK507; clear HO541; clear HO544; clear BK545; clear HB; clear HO548; have HO_508008 := n0_; have BK501 := n1_; have BK507 := n2_; have HO541 := n3_; have HO544 := n4_; have BK545 := n5_; have HB := n6_; have HO552 := n7_; clear n0_ n1_ n2_ n3_ n4_ n5_ n6_ n7_; clear ho hb hg hat; obtain ⟨Ao94, co94, eo94⟩ := Kd.N_slice HO552.out; subst eo94) | ((with_reducible refine gate_callee (f := 27) rfl ?_); refine goesL_ (some 119) rfl rfl Try.func27 (by kernel_rfl) rfl #[.slice Ao94 y550.length co94, .slice A1 l1.length c1] rfl (by (try simp only [List.map_toArray, List.map_cons, List.map_nil]); first | done | rfl | (simp only [List.length_drop, List.length_take]; rfl)) ?_; (with_reducible refine (wharfref14_List.calls kj62 _ _ y550 _ _ l1 true _ ?side1 ?side2 ?side3 ?side4 A75.out).mono ?_); (case side1 => repeat (first | exact (Kd.N_reads' HO552.out).2.2 | (with_reducible refine Kd.C_alloc ?_ _) | (with_reducible refine Kd.C_drewN ?_ _) | (with_reducible refine Kd.C_drew ?_))); (case side2 => exact (Kd.N_reads' HO552.out).2.1); (case side3 => repeat (first | exact (Kd.C_below HR1.out HB.out) | (with_reducible refine Kd.C_alloc ?_ _) | (with_reducible refine Kd.C_drewN ?_ _) | (with_reducible refine Kd.C_drew ?_))); (case side4 => exact HC1.out); rintro e w95 ⟨rfl, hb⟩; refine ⟨_, rfl, ?_⟩; have n0_ := Aside0.mk (Kd.V_below (by (with_reducible repeat (first | apply Kd.V_alloc | apply Kd.V_drewN | apply Kd.V_drew)); exact HO_508008.out) hb); have n1_ := Aside0.mk (Kd.N_below (by (with_reducible repeat (first | apply Kd.N_alloc | apply Kd.N_drewN | apply Kd.N_drew)); exact HO541.out) hb); have n2_ := Aside0.mk (Kd.N_below (by (with_reducible repeat (first | apply Kd.N_alloc | apply Kd.N_drewN | apply Kd.N_drew)); exact HO544.out) hb); have n3_ := Aside0.mk (Kd.N_below (by (with_reducible repeat (first | apply Kd.N_alloc | apply Kd.N_drewN | apply Kd.N_drew)); exact HO552.out) hb); have n4_ := Aside0.mk (blk_below (g := gb501) (o := .cells #[.int .i64 a0_0, .int .i64 a0_1, .int .i64 a0_2, .int .i64 a0_3, .int .i64 a0_4, .int .i64 a0_5, .int .i64 a0_6, .int .i64 a0_7] 23 (0, 0)) (by (with_reducible repeat (first | refine blk_drewN ?_ _ | refine blk_drew ?_ | refine blk_alloc ?_ _)); exact BK501.out) hb); have n5_ := Aside0.mk (blk_below (g := gb507) (o := .cells #[.int .i64 t531, .int .i64 t532, .int .i64 t533, .int .i64 t534, .int .i64 t535, .int .i64 t536, .int .i64 t537, .int .i64 t538, .slice Ao86 t539.length co86] 36 (0, 0)) (by (with_reducible repeat (first | refine blk_drewN ?_ _ | refine blk_drew ?_ | refine blk_alloc ?_ _)); exact BK507.out) hb); have n6_ := Aside0.mk (blk_below (g := gb545) (o := .cells #[.int .i64 t531, .int .i64 t532, .int .i64 t533, .int .i64 t534, .int .i64 t535, .int .i64 t536, .int .i64 t537, .int .i64 t538, .slice Ao86 t539.length co86] 36 (0, 0)) (by (with_reducible repeat (first | refine blk_drewN ?_ _ | refine blk_drew ?_ | refine blk_alloc ?_ _)); exact BK545.out) hb); have n7_ := Aside0.mk (below_step (by repeat (first | (with_reducible first | exact HB.out | apply below_alloc | apply pw_below_drewN | apply below_drew1 | refine below_set ?_ GE501.out | refine below_set ?_ GE507.out | refine below_set ?_ GE545.out) | exact HB.out)) hb); clear HO_508008; clear HO541; clear HO544; clear HO552; clear BK501; clear BK507; clear BK545; clear HB; have HO_508008 := n0_; have HO541 := n1_; have HO544 := n2_; have HO552 := n3_; have BK501 := n4_; have BK507 := n5_; have BK545 := n6_; have HB := n7_; clear n0_ n1_ n2_ n3_ n4_ n5_ n6_ n7_; (try clear hb); (try clear hb2); (try clear hk); (try clear hi)) | (go_at_call 13; (with_reducible refine (wharflaw19_live.calls kj62  t554 _ A77.out).mono ?_); rintro e w96 ⟨rfl, hb⟩; have n0_ := Aside0.mk (Kd.V_below (by (with_reducible repeat (first | apply Kd.V_alloc | apply Kd.V_drewN | apply Kd.V_drew)); exact HO_508008.out) hb); have n1_ := Aside0.mk (Kd.N_below (by (with_reducible repeat (first | apply Kd.N_alloc | apply Kd.N_drewN | apply Kd.N_drew)); exact HO541.out) hb); have n2_ := Aside0.mk (Kd.N_below (by (with_reducible repeat (first | apply Kd.N_alloc | apply Kd.N_drewN | apply Kd.N_drew)); exact HO544.out) hb); have n3_ := Aside0.mk (Kd.N_below (by (with_reducible repeat (first | apply Kd.N_alloc | apply Kd.N_drewN | apply Kd.N_drew)); exact HO552.out) hb); have n4_ := Aside0.mk (blk_below (g := gb501) (o := .cells #[.int .i64 a0_0, .int .i64 a0_1, .int .i64 a0_2, .int .i64 a0_3, .int .i64 a0_4, .int .i64 a0_5, .int .i64 a0_6, .int .i64 a0_7] 23 (0, 0)) (by (with_reducible repeat (first | refine blk_drewN ?_ _ | refine blk_drew ?_ | refine blk_alloc ?_ _)); exact BK501.out) hb); have n5_ := Aside0.mk (blk_below (g := gb507) (o := .cells #[.int .i64 t531, .int .i64 t532, .int .i64 t533, .int .i64 t534, .int .i64 t535, .int .i64 t536, .int .i64 t537, .int .i64 t538, .slice Ao86 t539.length co86] 36 (0, 0)) (by (with_reducible repeat (first | refine blk_drewN ?_ _ | refine blk_drew ?_ | refine blk_alloc ?_ _)); exact BK507.out) hb); have n6_ := Aside0.mk (blk_below (g := gb545) (o := .cells #[.int .i64 t531, .int .i64 t532, .int .i64 t533, .int .i64 t534, .int .i64 t535, .int .i64 t536, .int .i64 t537, .int .i64 t538, .slice Ao86 t539.length co86] 36 (0, 0)) (by (with_reducible repeat (first | refine blk_drewN ?_ _ | refine blk_drew ?_ | refine blk_alloc ?_ _)); exact BK545.out) hb); have n7_ := Aside0.mk (below_step (by repeat (first | (with_reducible first | exact HB.out | apply below_alloc | apply pw_below_drewN | apply below_drew1 | refine below_set ?_ GE501.out | refine below_set ?_ GE507.out | refine below_set ?_ GE545.out) | exact HB.out)) hb); clear HO_508008; clear HO541; clear HO544; clear HO552; clear BK501; clear BK507; clear BK545; clear HB; have HO_508008 := n0_; have HO541 := n1_; have HO544 := n2_; have HO552 := n3_; have BK501 := n4_; have BK507 := n5_; have BK545 := n6_; have HB := n7_; clear n0_ n1_ n2_ n3_ n4_ n5_ n6_ n7_; (try clear hb); (try clear hb2); (try clear hk); (try clear hi)))
                 go_ret
                 exact ⟨by first | rfl | (simp [errW_none, errW_some] <;> rfl) | (simp [*, errW_none, errW_some] <;> rfl), by repeat (first | (with_reducible first | exact HB.out | apply below_alloc | apply pw_below_drewN | apply below_drew1 | refine below_set ?_ GE501.out | refine below_set ?_ GE507.out | refine below_set ?_ GE545.out) | exact HB.out)⟩
                ·
                 replace c76 := Bool.eq_false_iff.mpr c76
                 subst c76
                 have H1 : (some false) = some r := by rw [if_neg (show ¬ (false = true) by decide)] at H; exact H
                 clear H
                 have H := H1
                 clear H1
                 exact absurd (Option.some.inj H) (by rw [HT_.out]; exact Bool.false_ne_true)
               ·
                rw [if_neg c74] at H
                exact absurd H (by simp)
              ·
               rw [if_neg c73] at H
               have c73b0 : decide ((wrap64 (4503599627370496 - x2_3)) < t549) = false := decide_eq_false c73
               clear c73
               have H' := Aside0.mk H
               clear H
               have hnb97 := NB507_501.out
               have hnc97 := NB501_507.out
               have hcz98_0 : wc.cell? ⟨gb507, 0, none⟩ = some (.int .i64 x508000_3) := (blk_cell BK507.out 0).trans rfl
               have hcz98_1 : wc.cell? ⟨gb507, 1, none⟩ = some (.int .i64 x508001_3) := (blk_cell BK507.out 1).trans rfl
               have hcz98_2 : wc.cell? ⟨gb507, 2, none⟩ = some (.int .i64 x508002_3) := (blk_cell BK507.out 2).trans rfl
               have hcz98_3 : wc.cell? ⟨gb507, 3, none⟩ = some (.int .i64 x508003_3) := (blk_cell BK507.out 3).trans rfl
               have hcz98_4 : wc.cell? ⟨gb507, 4, none⟩ = some (.int .i64 x508004_3) := (blk_cell BK507.out 4).trans rfl
               have hcz98_5 : wc.cell? ⟨gb507, 5, none⟩ = some (.int .i64 x508005_3) := (blk_cell BK507.out 5).trans rfl
               have hcz98_6 : wc.cell? ⟨gb507, 6, none⟩ = some (.int .i64 x508006_3) := (blk_cell BK507.out 6).trans rfl
               have hcz98_7 : wc.cell? ⟨gb507, 7, none⟩ = some (.int .i64 x508007_3) := (blk_cell BK507.out 7).trans rfl
               have hcz98_8 : wc.cell? ⟨gb507, 8, none⟩ = some (u508008) := (blk_cell BK507.out 8).trans rfl
               have hfz98_0 := blk_frozen BK507.out 0
               have hfz98_1 := blk_frozen BK507.out 1
               have hfz98_2 := blk_frozen BK507.out 2
               have hfz98_3 := blk_frozen BK507.out 3
               have hfz98_4 := blk_frozen BK507.out 4
               have hfz98_5 := blk_frozen BK507.out 5
               have hfz98_6 := blk_frozen BK507.out 6
               have hfz98_7 := blk_frozen BK507.out 7
               have hfz98_8 := blk_frozen BK507.out 8
               obtain ⟨Ao99, co99, eo99⟩ := Kd.V_slice HO_508008.out
               subst eo99
               go_wp2_with (first | ((with_reducible refine gate_callee (f := 25) rfl ?_); refine goesL_ (some 85) rfl rfl Try.func25 (by kernel_rfl) rfl #[.agg #[.int .i64 x508000_3, .int .i64 x508001_3, .int .i64 x508002_3, .int .i64 x508003_3, .int .i64 x508004_3, .int .i64 x508005_3, .int .i64 x508006_3, .int .i64 x508007_3, .slice Ao99 x508008_3.length co99], .int .i64 x2_3] rfl (by (try simp only [List.map_toArray, List.map_cons, List.map_nil]); first | done | rfl | (simp only [List.length_drop, List.length_take]; rfl)) ?_; (with_reducible refine (rate_Pop.calls kj62 x508000_3 x508001_3 x508002_3 x508003_3 x508004_3 x508005_3 x508006_3 x508007_3 (fun k_ => (some k_ ≠ (u11 : Value).ownBlock ∧ (k_ ≠ gb501 ∧ k_ ≠ gb507))) _ _ x508008_3 x2_3 t531 t532 t533 t534 t535 t536 t537 t538 t539 t542 _ ?side1 A69.out).mono ?_); (case side1 => exact HO_508008.out); rintro e w100 ⟨v540, v543, rfl, ho0, ho1, hb⟩; refine ⟨_, rfl, ?_⟩; have n0_ := Aside0.mk (Kd.N_mono (Kd.N_told (Kd.N_told (Kd.N_old (by (with_reducible repeat (first | apply Kd.N_alloc | apply Kd.N_drewN | apply Kd.N_drew)); exact HO_11.out) hb) (Kd.N_base ho0)) (Kd.N_base ho1)) (fun _ h_ => h_.1)); have n1_ := Aside0.mk (Kd.V_mono (Kd.V_told (Kd.V_told (Kd.V_old (by (with_reducible repeat (first | apply Kd.V_alloc | apply Kd.V_drewN | apply Kd.V_drew)); exact HO_508008.out) hb) (Kd.N_base ho0)) (Kd.N_base ho1)) (fun _ h_ => h_.1)); have n2_ := Aside0.mk (Kd.N_lower (Kd.N_mono (ok' := fun k_ => some k_ ≠ (v543 : Value).ownBlock ∧ some k_ ≠ (u11 : Value).ownBlock ∧ k_ ≠ gb501 ∧ k_ ≠ gb507) ho0 (fun k_ hk_ => ⟨hk_.2, Or.elim hk_.1 (fun hs_ => hs_.1) (fun hn_ => (Kd.fresh' (Kd.N_lt (by (with_reducible repeat (first | apply Kd.N_alloc | apply Kd.N_drewN | apply Kd.N_drew)); exact HO_11.out)) k_ hn_)), Or.elim hk_.1 (fun hs_ => hs_.2.1) (fun hn_ => (Kd.freshB (g := gb501) (o := .cells #[.int .i64 a0_0, .int .i64 a0_1, .int .i64 a0_2, .int .i64 a0_3, .int .i64 a0_4, .int .i64 a0_5, .int .i64 a0_6, .int .i64 a0_7] 23 (0, 0)) (by (with_reducible repeat (first | refine blk_drewN ?_ _ | refine blk_drew ?_ | refine blk_alloc ?_ _)); exact BK501.out) k_ hn_)), Or.elim hk_.1 (fun hs_ => hs_.2.2) (fun hn_ => (Kd.freshB (g := gb507) (o := .cells #[.int .i64 x508000_3, .int .i64 x508001_3, .int .i64 x508002_3, .int .i64 x508003_3, .int .i64 x508004_3, .int .i64 x508005_3, .int .i64 x508006_3, .int .i64 x508007_3, .slice Ao99 x508008_3.length co99] 36 (0, 0)) (by (with_reducible repeat (first | refine blk_drewN ?_ _ | refine blk_drew ?_ | refine blk_alloc ?_ _)); exact BK507.out) k_ hn_))⟩)) (below_size (by repeat (first | (with_reducible first | exact HB.out | apply below_alloc | apply pw_below_drewN | apply below_drew1 | refine below_set ?_ GE501.out | refine below_set ?_ GE507.out) | exact HB.out)))); have n3_ := Aside0.mk (Kd.N_lower (Kd.N_mono (ok' := fun k_ => some k_ ≠ (v540 : Value).ownBlock ∧ some k_ ≠ (u11 : Value).ownBlock ∧ k_ ≠ gb501 ∧ k_ ≠ gb507) ho1 (fun k_ hk_ => ⟨hk_.2, Or.elim hk_.1 (fun hs_ => hs_.1) (fun hn_ => (Kd.fresh' (Kd.N_lt (by (with_reducible repeat (first | apply Kd.N_alloc | apply Kd.N_drewN | apply Kd.N_drew)); exact HO_11.out)) k_ hn_)), Or.elim hk_.1 (fun hs_ => hs_.2.1) (fun hn_ => (Kd.freshB (g := gb501) (o := .cells #[.int .i64 a0_0, .int .i64 a0_1, .int .i64 a0_2, .int .i64 a0_3, .int .i64 a0_4, .int .i64 a0_5, .int .i64 a0_6, .int .i64 a0_7] 23 (0, 0)) (by (with_reducible repeat (first | refine blk_drewN ?_ _ | refine blk_drew ?_ | refine blk_alloc ?_ _)); exact BK501.out) k_ hn_)), Or.elim hk_.1 (fun hs_ => hs_.2.2) (fun hn_ => (Kd.freshB (g := gb507) (o := .cells #[.int .i64 x508000_3, .int .i64 x508001_3, .int .i64 x508002_3, .int .i64 x508003_3, .int .i64 x508004_3, .int .i64 x508005_3, .int .i64 x508006_3, .int .i64 x508007_3, .slice Ao99 x508008_3.length co99] 36 (0, 0)) (by (with_reducible repeat (first | refine blk_drewN ?_ _ | refine blk_drew ?_ | refine blk_alloc ?_ _)); exact BK507.out) k_ hn_))⟩)) (below_size (by repeat (first | (with_reducible first | exact HB.out | apply below_alloc | apply pw_below_drewN | apply below_drew1 | refine below_set ?_ GE501.out | refine below_set ?_ GE507.out) | exact HB.out)))); have n4_ := Aside0.mk (blk_below (g := gb501) (o := .cells #[.int .i64 a0_0, .int .i64 a0_1, .int .i64 a0_2, .int .i64 a0_3, .int .i64 a0_4, .int .i64 a0_5, .int .i64 a0_6, .int .i64 a0_7] 23 (0, 0)) (by (with_reducible repeat (first | refine blk_drewN ?_ _ | refine blk_drew ?_ | refine blk_alloc ?_ _)); exact BK501.out) hb); have n5_ := Aside0.mk (blk_below (g := gb507) (o := .cells #[.int .i64 x508000_3, .int .i64 x508001_3, .int .i64 x508002_3, .int .i64 x508003_3, .int .i64 x508004_3, .int .i64 x508005_3, .int .i64 x508006_3, .int .i64 x508007_3, .slice Ao99 x508008_3.length co99] 36 (0, 0)) (by (with_reducible repeat (first | refine blk_drewN ?_ _ | refine blk_drew ?_ | refine blk_alloc ?_ _)); exact BK507.out) hb); have n6_ := Aside0.mk (below_step (by repeat (first | (with_reducible first | exact HB.out | apply below_alloc | apply pw_below_drewN | apply below_drew1 | refine below_set ?_ GE501.out | refine below_set ?_ GE507.out) | exact HB.out)) hb); clear HO_11; clear HO_508008; clear BK501; clear BK507; clear HB; have HO_11 := n0_; have HO_508008 := n1_; have HO541 := n2_; have HO544 := n3_; have BK501 := n4_; have BK507 := n5_; have HB := n6_; clear n0_ n1_ n2_ n3_ n4_ n5_ n6_; (try clear hb); (try clear hb2); (try clear hk); (try clear hi); (try clear ho0); (try clear ho1)) | ((with_reducible refine gate_dst (N := 13) rfl ?_); (try (refine gate_guard (by rfl) ?_; dsimp only)); refine box_event ?hg (N := 13) ?hd (cs := #[.int .i64 0, .int .i64 0, .int .i64 0, .int .i64 0, .int .i64 0, .int .i64 0, .int .i64 0, .int .i64 0, .slice none 0 0]) (t := 36) ?hr ?_; (case hd => rfl); (case hg => rfl); (case hr => first | (go_simp; done) | (go_simp; rfl)); intro gb545 hg w101 hbox hb; have n0_ := Aside0.mk (Kd.N_below (Kd.N_elderB (by (with_reducible repeat (first | apply Kd.N_alloc | apply Kd.N_drewN | apply Kd.N_drew)); exact HO_11.out) gb545 (Nat.le_of_eq hg.symm)) hb); have n1_ := Aside0.mk (Kd.V_below (Kd.V_elderB (by (with_reducible repeat (first | apply Kd.V_alloc | apply Kd.V_drewN | apply Kd.V_drew)); exact HO_508008.out) gb545 (Nat.le_of_eq hg.symm)) hb); have n2_ := Aside0.mk (Kd.N_below (Kd.N_elderB (by (with_reducible repeat (first | apply Kd.N_alloc | apply Kd.N_drewN | apply Kd.N_drew)); exact HO541.out) gb545 (Nat.le_of_eq hg.symm)) hb); have n3_ := Aside0.mk (Kd.N_below (Kd.N_elderB (by (with_reducible repeat (first | apply Kd.N_alloc | apply Kd.N_drewN | apply Kd.N_drew)); exact HO544.out) gb545 (Nat.le_of_eq hg.symm)) hb); have n4_ := Aside0.mk (blk_below (g := gb501) (o := .cells #[.int .i64 a0_0, .int .i64 a0_1, .int .i64 a0_2, .int .i64 a0_3, .int .i64 a0_4, .int .i64 a0_5, .int .i64 a0_6, .int .i64 a0_7] 23 (0, 0)) (by (with_reducible repeat (first | refine blk_drewN ?_ _ | refine blk_drew ?_ | refine blk_alloc ?_ _)); exact BK501.out) hb); have n5_ := Aside0.mk (blk_below (g := gb507) (o := .cells #[.int .i64 x508000_3, .int .i64 x508001_3, .int .i64 x508002_3, .int .i64 x508003_3, .int .i64 x508004_3, .int .i64 x508005_3, .int .i64 x508006_3, .int .i64 x508007_3, .slice Ao99 x508008_3.length co99] 36 (0, 0)) (by (with_reducible repeat (first | refine blk_drewN ?_ _ | refine blk_drew ?_ | refine blk_alloc ?_ _)); exact BK507.out) hb); have n6_ := Aside0.mk (below_step (by repeat (first | (with_reducible first | exact HB.out | apply below_alloc | apply pw_below_drewN | apply below_drew1 | refine below_set ?_ GE501.out | refine below_set ?_ GE507.out) | exact HB.out)) hb); have n7_ := Aside0.mk (hbox); have n8_ := Aside0.mk ((by rw [hg]; exact (below_size (by repeat (first | (with_reducible first | exact HB.out | apply below_alloc | apply pw_below_drewN | apply below_drew1 | refine below_set ?_ GE501.out | refine below_set ?_ GE507.out) | exact HB.out))) : w.heap.size ≤ gb545)); have n9_ := Aside0.mk ((by rw [hg]; exact (below_size (by repeat (first | (with_reducible first | exact HB.out | apply below_alloc | apply pw_below_drewN | apply below_drew1 | refine below_set ?_ GE501.out | refine below_set ?_ GE507.out) | exact HB.out))) : w.heap.size ≤ gb545)); have n10_ := Aside0.mk ((by rw [hg]; exact Nat.ne_of_lt (blk_lt (g := gb501) (o := .cells #[.int .i64 a0_0, .int .i64 a0_1, .int .i64 a0_2, .int .i64 a0_3, .int .i64 a0_4, .int .i64 a0_5, .int .i64 a0_6, .int .i64 a0_7] 23 (0, 0)) (by (with_reducible repeat (first | refine blk_drewN ?_ _ | refine blk_drew ?_ | refine blk_alloc ?_ _)); exact BK501.out)) : gb501 ≠ gb545)); have n11_ := Aside0.mk ((by rw [hg]; exact Nat.ne_of_gt (blk_lt (g := gb501) (o := .cells #[.int .i64 a0_0, .int .i64 a0_1, .int .i64 a0_2, .int .i64 a0_3, .int .i64 a0_4, .int .i64 a0_5, .int .i64 a0_6, .int .i64 a0_7] 23 (0, 0)) (by (with_reducible repeat (first | refine blk_drewN ?_ _ | refine blk_drew ?_ | refine blk_alloc ?_ _)); exact BK501.out)) : gb545 ≠ gb501)); have n12_ := Aside0.mk ((by rw [hg]; exact Nat.ne_of_lt (blk_lt (g := gb507) (o := .cells #[.int .i64 x508000_3, .int .i64 x508001_3, .int .i64 x508002_3, .int .i64 x508003_3, .int .i64 x508004_3, .int .i64 x508005_3, .int .i64 x508006_3, .int .i64 x508007_3, .slice Ao99 x508008_3.length co99] 36 (0, 0)) (by (with_reducible repeat (first | refine blk_drewN ?_ _ | refine blk_drew ?_ | refine blk_alloc ?_ _)); exact BK507.out)) : gb507 ≠ gb545)); have n13_ := Aside0.mk ((by rw [hg]; exact Nat.ne_of_gt (blk_lt (g := gb507) (o := .cells #[.int .i64 x508000_3, .int .i64 x508001_3, .int .i64 x508002_3, .int .i64 x508003_3, .int .i64 x508004_3, .int .i64 x508005_3, .int .i64 x508006_3, .int .i64 x508007_3, .slice Ao99 x508008_3.length co99] 36 (0, 0)) (by (with_reducible repeat (first | refine blk_drewN ?_ _ | refine blk_drew ?_ | refine blk_alloc ?_ _)); exact BK507.out)) : gb545 ≠ gb507)); clear HO_11; clear HO_508008; clear HO541; clear HO544; clear BK501; clear BK507; clear HB; have HO_11 := n0_; have HO_508008 := n1_; have HO541 := n2_; have HO544 := n3_; have BK501 := n4_; have BK507 := n5_; have HB := n6_; have BK545 := n7_; have GW545 := n8_; have GE545 := n9_; have NB501_545 := n10_; have NB545_501 := n11_; have NB507_545 := n12_; have NB545_507 := n13_; clear n0_ n1_ n2_ n3_ n4_ n5_ n6_ n7_ n8_ n9_ n10_ n11_ n12_ n13_; clear hb hbox hg; have hnb102 := NB545_501.out; have hnc102 := NB501_545.out; have hnb103 := NB545_507.out; have hnc103 := NB507_545.out; have hcz104_0 : w101.cell? ⟨gb545, 0, none⟩ = some (.int .i64 0) := (blk_cell BK545.out 0).trans rfl; have hcz104_1 : w101.cell? ⟨gb545, 1, none⟩ = some (.int .i64 0) := (blk_cell BK545.out 1).trans rfl; have hcz104_2 : w101.cell? ⟨gb545, 2, none⟩ = some (.int .i64 0) := (blk_cell BK545.out 2).trans rfl; have hcz104_3 : w101.cell? ⟨gb545, 3, none⟩ = some (.int .i64 0) := (blk_cell BK545.out 3).trans rfl; have hcz104_4 : w101.cell? ⟨gb545, 4, none⟩ = some (.int .i64 0) := (blk_cell BK545.out 4).trans rfl; have hcz104_5 : w101.cell? ⟨gb545, 5, none⟩ = some (.int .i64 0) := (blk_cell BK545.out 5).trans rfl; have hcz104_6 : w101.cell? ⟨gb545, 6, none⟩ = some (.int .i64 0) := (blk_cell BK545.out 6).trans rfl; have hcz104_7 : w101.cell? ⟨gb545, 7, none⟩ = some (.int .i64 0) := (blk_cell BK545.out 7).trans rfl; have hcz104_8 : w101.cell? ⟨gb545, 8, none⟩ = some (.slice none 0 0) := (blk_cell BK545.out 8).trans rfl; have hfz104_0 := blk_frozen BK545.out 0; have hfz104_1 := blk_frozen BK545.out 1; have hfz104_2 := blk_frozen BK545.out 2; have hfz104_3 := blk_frozen BK545.out 3; have hfz104_4 := blk_frozen BK545.out 4; have hfz104_5 := blk_frozen BK545.out 5; have hfz104_6 := blk_frozen BK545.out 6; have hfz104_7 := blk_frozen BK545.out 7; have hfz104_8 := blk_frozen BK545.out 8; obtain ⟨Ao105, co105, eo105⟩ := Kd.N_slice HO541.out; subst eo105; obtain ⟨Ao107, co107, eo107⟩ := Kd.N_slice HO544.out; subst eo107) | ((with_reducible refine gate_builtin (b := .append) (xs := #[.tmp 88, .tmp 89]) rfl ?_); (try (refine gate_guard (by rfl) ?_; dsimp only)); at_builtin; refine Kd.N_append_rows k41 (w0 := w) w.heap.size rfl (.tmp 88) (.tmp 89) 34 41 (.agg #[(.int .i64 0), (.string ⟨#[]⟩), (.string ⟨#[]⟩), (.string ⟨#[]⟩), (.int .i64 0), (.int .i64 0), (.int .i64 0), (.int .i64 0), (.bool false), (.slice none 0 0), (.slice none 0 0)]) 144 rfl Try.underlying34 info41 rfl (by decide) (by omega) u11 x11_3 t542 _ _ _ (fun k_ => some k_ ≠ (.slice Ao105 t539.length co105 : Value).ownBlock ∧ k_ ≠ gb501 ∧ k_ ≠ gb507 ∧ k_ ≠ gb545) (fun k_ => ((fun k_ => some k_ ≠ (.slice Ao105 t539.length co105 : Value).ownBlock ∧ k_ ≠ gb501 ∧ k_ ≠ gb507 ∧ k_ ≠ gb545)) k_ ∧ some k_ ≠ (u11 : Value).ownBlock) rfl rfl ?aO ?aR (fun _ hk => hk) ?aF ?aB ?aS ?aL ?_; (case aR => exact (by skip; have zf720_ := Kd.N_mono HO544.out (fun k_ hk => (⟨hk, hk.2⟩ : _ ∧ k_ ≠ gb545)); exact Kd.N_F (Kd.N_mono (ok' := (fun k_ => ((fun k_ => some k_ ≠ (.slice Ao105 t539.length co105 : Value).ownBlock ∧ k_ ≠ gb501 ∧ k_ ≠ gb507 ∧ k_ ≠ gb545)) k_ ∧ some k_ ≠ (u11 : Value).ownBlock)) (((N_thru7_ zf720_ (by intro zz_; repeat (first | with_reducible exact zz_ | with_reducible refine Kd.N_far ?_ (by first | exact (fun _ hk => hk.2)) _ | with_reducible refine Kd.N_drewN ?_ _ | with_reducible apply Kd.N_drew | with_reducible apply Kd.N_alloc))))) (fun k_ hk => ⟨⟨hk.1.1.1, ⟨hk.1.1.2.2.1, ⟨hk.1.1.2.2.2, hk.1.2⟩⟩⟩, hk.1.1.2.1⟩)))); (case aB => exact (by repeat (first | (with_reducible first | exact HB.out | apply below_alloc | apply pw_below_drewN | apply below_drew1 | refine below_set ?_ GE501.out | refine below_set ?_ GE507.out | refine below_set ?_ GE545.out) | exact HB.out))); (case aF => exact (fun k_ hk => ⟨Kd.fresh' (Kd.N_lt (by (with_reducible repeat (first | apply Kd.N_alloc | apply Kd.N_drewN | apply Kd.N_drew)); have zf730_ := Kd.N_mono HO541.out (fun k_ hk => (⟨hk, hk.2⟩ : _ ∧ k_ ≠ gb545)); exact (Kd.N_mono ((N_thru7_ zf730_ (by intro zz_; repeat (first | with_reducible exact zz_ | with_reducible refine Kd.N_far ?_ (by first | exact (fun _ hk => hk.2)) _ | with_reducible refine Kd.N_drewN ?_ _ | with_reducible apply Kd.N_drew | with_reducible apply Kd.N_alloc)))) (fun _ h_ => h_.1)))) k_ hk, Kd.freshB (g := gb501) (o := .cells #[.int .i64 a0_0, .int .i64 a0_1, .int .i64 a0_2, .int .i64 a0_3, .int .i64 a0_4, .int .i64 a0_5, .int .i64 a0_6, .int .i64 a0_7] 23 (0, 0)) (by (with_reducible repeat (first | refine blk_drewN ?_ _ | refine blk_drew ?_ | refine blk_alloc ?_ _)); (iterate 9 (refine blk_far ?_ NB501_545.out _; (with_reducible repeat (first | refine blk_drewN ?_ _ | refine blk_drew ?_ | refine blk_alloc ?_ _)))); exact BK501.out) k_ hk, Kd.freshB (g := gb507) (o := .cells #[.int .i64 x508000_3, .int .i64 x508001_3, .int .i64 x508002_3, .int .i64 x508003_3, .int .i64 x508004_3, .int .i64 x508005_3, .int .i64 x508006_3, .int .i64 x508007_3, .slice Ao99 x508008_3.length co99] 36 (0, 0)) (by (with_reducible repeat (first | refine blk_drewN ?_ _ | refine blk_drew ?_ | refine blk_alloc ?_ _)); (iterate 9 (refine blk_far ?_ NB507_545.out _; (with_reducible repeat (first | refine blk_drewN ?_ _ | refine blk_drew ?_ | refine blk_alloc ?_ _)))); exact BK507.out) k_ hk, Kd.freshB (g := gb545) (o := .cells #[.int .i64 t531, .int .i64 t532, .int .i64 t533, .int .i64 t534, .int .i64 t535, .int .i64 t536, .int .i64 t537, .int .i64 t538, .slice Ao105 t539.length co105] 36 (0, 0)) (by (with_reducible repeat (first | refine blk_drewN ?_ _ | refine blk_drew ?_ | refine blk_alloc ?_ _)); refine blk_put (cs := #[.int .i64 t531, .int .i64 t532, .int .i64 t533, .int .i64 t534, .int .i64 t535, .int .i64 t536, .int .i64 t537, .int .i64 t538, .slice none 0 0]) ?_ 8 _ rfl; (with_reducible repeat (first | refine blk_drewN ?_ _ | refine blk_drew ?_ | refine blk_alloc ?_ _)); refine blk_put (cs := #[.int .i64 t531, .int .i64 t532, .int .i64 t533, .int .i64 t534, .int .i64 t535, .int .i64 t536, .int .i64 t537, .int .i64 0, .slice none 0 0]) ?_ 7 _ rfl; (with_reducible repeat (first | refine blk_drewN ?_ _ | refine blk_drew ?_ | refine blk_alloc ?_ _)); refine blk_put (cs := #[.int .i64 t531, .int .i64 t532, .int .i64 t533, .int .i64 t534, .int .i64 t535, .int .i64 t536, .int .i64 0, .int .i64 0, .slice none 0 0]) ?_ 6 _ rfl; (with_reducible repeat (first | refine blk_drewN ?_ _ | refine blk_drew ?_ | refine blk_alloc ?_ _)); refine blk_put (cs := #[.int .i64 t531, .int .i64 t532, .int .i64 t533, .int .i64 t534, .int .i64 t535, .int .i64 0, .int .i64 0, .int .i64 0, .slice none 0 0]) ?_ 5 _ rfl; (with_reducible repeat (first | refine blk_drewN ?_ _ | refine blk_drew ?_ | refine blk_alloc ?_ _)); refine blk_put (cs := #[.int .i64 t531, .int .i64 t532, .int .i64 t533, .int .i64 t534, .int .i64 0, .int .i64 0, .int .i64 0, .int .i64 0, .slice none 0 0]) ?_ 4 _ rfl; (with_reducible repeat (first | refine blk_drewN ?_ _ | refine blk_drew ?_ | refine blk_alloc ?_ _)); refine blk_put (cs := #[.int .i64 t531, .int .i64 t532, .int .i64 t533, .int .i64 0, .int .i64 0, .int .i64 0, .int .i64 0, .int .i64 0, .slice none 0 0]) ?_ 3 _ rfl; (with_reducible repeat (first | refine blk_drewN ?_ _ | refine blk_drew ?_ | refine blk_alloc ?_ _)); refine blk_put (cs := #[.int .i64 t531, .int .i64 t532, .int .i64 0, .int .i64 0, .int .i64 0, .int .i64 0, .int .i64 0, .int .i64 0, .slice none 0 0]) ?_ 2 _ rfl; (with_reducible repeat (first | refine blk_drewN ?_ _ | refine blk_drew ?_ | refine blk_alloc ?_ _)); refine blk_put (cs := #[.int .i64 t531, .int .i64 0, .int .i64 0, .int .i64 0, .int .i64 0, .int .i64 0, .int .i64 0, .int .i64 0, .slice none 0 0]) ?_ 1 _ rfl; (with_reducible repeat (first | refine blk_drewN ?_ _ | refine blk_drew ?_ | refine blk_alloc ?_ _)); refine blk_put (cs := #[.int .i64 0, .int .i64 0, .int .i64 0, .int .i64 0, .int .i64 0, .int .i64 0, .int .i64 0, .int .i64 0, .slice none 0 0]) ?_ 0 _ rfl; (with_reducible repeat (first | refine blk_drewN ?_ _ | refine blk_drew ?_ | refine blk_alloc ?_ _)); exact BK545.out) k_ hk⟩)); (case aO => exact (by (with_reducible repeat (first | apply Kd.N_alloc | apply Kd.N_drewN | apply Kd.N_drew)); have zf740_ := Kd.N_mono HO_11.out (fun k_ hk => (⟨hk, hk.2⟩ : _ ∧ k_ ≠ gb545)); exact Kd.N_mono ((N_thru7_ zf740_ (by intro zz_; repeat (first | with_reducible exact zz_ | with_reducible refine Kd.N_far ?_ (by first | exact (fun _ hk => hk.2)) _ | with_reducible refine Kd.N_drewN ?_ _ | with_reducible apply Kd.N_drew | with_reducible apply Kd.N_alloc)))) (fun _ hk => ⟨hk.1.1.1.2, ⟨hk.1.1.1.1.1, ⟨hk.1.1.1.1.2, hk.1.2⟩⟩⟩))); (case aS => exact (below_size (by repeat (first | (with_reducible first | exact HB.out | apply below_alloc | apply pw_below_drewN | apply below_drew1 | refine below_set ?_ GE501.out | refine below_set ?_ GE507.out | refine below_set ?_ GE545.out) | exact HB.out)))); (case aL => have := LMc70.out; omega); intro v547 w106 ho hb hg hat; rw [← Ny546.out] at ho; have n0_ := Aside0.mk (Kd.V_afterv (ok := (fun k_ => some k_ ≠ (.slice Ao105 t539.length co105 : Value).ownBlock ∧ some k_ ≠ (.slice Ao107 t542.length co107 : Value).ownBlock ∧ k_ ≠ gb501 ∧ k_ ≠ gb507 ∧ k_ ≠ gb545)) (by (with_reducible repeat (first | apply Kd.V_alloc | apply Kd.V_drewN | apply Kd.V_drew)); have zf750_ := Kd.V_mono HO_508008.out (fun k_ hk => (⟨hk, hk.2⟩ : _ ∧ k_ ≠ gb545)); exact Kd.V_mono ((V_thru7_ zf750_ (by intro zz_; repeat (first | with_reducible exact zz_ | with_reducible refine Kd.V_far ?_ (by first | exact (fun _ hk => hk.2)) _ | with_reducible refine Kd.V_drewN ?_ _ | with_reducible apply Kd.V_drew | with_reducible apply Kd.V_alloc)))) (fun _ hk => ⟨⟨hk.1.1.1.2, ⟨hk.1.1.2, ⟨hk.1.1.1.1.2.1, ⟨hk.1.1.1.1.2.2, hk.1.2⟩⟩⟩⟩, hk.1.1.1.1.1⟩)) hg hat); have n1_ := Aside0.mk (blk_grown (g := gb501) (o := .cells #[.int .i64 a0_0, .int .i64 a0_1, .int .i64 a0_2, .int .i64 a0_3, .int .i64 a0_4, .int .i64 a0_5, .int .i64 a0_6, .int .i64 a0_7] 23 (0, 0)) (by (with_reducible repeat (first | refine blk_drewN ?_ _ | refine blk_drew ?_ | refine blk_alloc ?_ _)); (iterate 9 (refine blk_far ?_ NB501_545.out _; (with_reducible repeat (first | refine blk_drewN ?_ _ | refine blk_drew ?_ | refine blk_alloc ?_ _)))); exact BK501.out) hg (Kd.N_ne HO_11.out BK501.out (by decide))); have n2_ := Aside0.mk (blk_grown (g := gb507) (o := .cells #[.int .i64 x508000_3, .int .i64 x508001_3, .int .i64 x508002_3, .int .i64 x508003_3, .int .i64 x508004_3, .int .i64 x508005_3, .int .i64 x508006_3, .int .i64 x508007_3, .slice Ao99 x508008_3.length co99] 36 (0, 0)) (by (with_reducible repeat (first | refine blk_drewN ?_ _ | refine blk_drew ?_ | refine blk_alloc ?_ _)); (iterate 9 (refine blk_far ?_ NB507_545.out _; (with_reducible repeat (first | refine blk_drewN ?_ _ | refine blk_drew ?_ | refine blk_alloc ?_ _)))); exact BK507.out) hg (Kd.N_ne HO_11.out BK507.out (by decide))); have n3_ := Aside0.mk (Kd.N_afterv (ok := (fun k_ => some k_ ≠ (.slice Ao107 t542.length co107 : Value).ownBlock ∧ k_ ≠ gb501 ∧ k_ ≠ gb507 ∧ k_ ≠ gb545)) (by (with_reducible repeat (first | apply Kd.N_alloc | apply Kd.N_drewN | apply Kd.N_drew)); have zf760_ := Kd.N_mono HO541.out (fun k_ hk => (⟨hk, hk.2⟩ : _ ∧ k_ ≠ gb545)); exact Kd.N_mono ((N_thru7_ zf760_ (by intro zz_; repeat (first | with_reducible exact zz_ | with_reducible refine Kd.N_far ?_ (by first | exact (fun _ hk => hk.2)) _ | with_reducible refine Kd.N_drewN ?_ _ | with_reducible apply Kd.N_drew | with_reducible apply Kd.N_alloc)))) (fun _ hk => ⟨⟨hk.1.1.1, ⟨hk.1.1.2.2.1, ⟨hk.1.1.2.2.2, hk.1.2⟩⟩⟩, hk.1.1.2.1⟩)) hg hat); have n4_ := Aside0.mk (Kd.N_afterv (ok := (fun k_ => some k_ ≠ (.slice Ao105 t539.length co105 : Value).ownBlock ∧ k_ ≠ gb501 ∧ k_ ≠ gb507 ∧ k_ ≠ gb545)) (by (with_reducible repeat (first | apply Kd.N_alloc | apply Kd.N_drewN | apply Kd.N_drew)); have zf770_ := Kd.N_mono HO544.out (fun k_ hk => (⟨hk, hk.2⟩ : _ ∧ k_ ≠ gb545)); exact Kd.N_mono ((N_thru7_ zf770_ (by intro zz_; repeat (first | with_reducible exact zz_ | with_reducible refine Kd.N_far ?_ (by first | exact (fun _ hk => hk.2)) _ | with_reducible refine Kd.N_drewN ?_ _ | with_reducible apply Kd.N_drew | with_reducible apply Kd.N_alloc)))) (fun _ hk => ⟨⟨hk.1.1.1, ⟨hk.1.1.2.2.1, ⟨hk.1.1.2.2.2, hk.1.2⟩⟩⟩, hk.1.1.2.1⟩)) hg hat); have n5_ := Aside0.mk (blk_grown (g := gb545) (o := .cells #[.int .i64 t531, .int .i64 t532, .int .i64 t533, .int .i64 t534, .int .i64 t535, .int .i64 t536, .int .i64 t537, .int .i64 t538, .slice Ao105 t539.length co105] 36 (0, 0)) (by (with_reducible repeat (first | refine blk_drewN ?_ _ | refine blk_drew ?_ | refine blk_alloc ?_ _)); refine blk_put (cs := #[.int .i64 t531, .int .i64 t532, .int .i64 t533, .int .i64 t534, .int .i64 t535, .int .i64 t536, .int .i64 t537, .int .i64 t538, .slice none 0 0]) ?_ 8 _ rfl; (with_reducible repeat (first | refine blk_drewN ?_ _ | refine blk_drew ?_ | refine blk_alloc ?_ _)); refine blk_put (cs := #[.int .i64 t531, .int .i64 t532, .int .i64 t533, .int .i64 t534, .int .i64 t535, .int .i64 t536, .int .i64 t537, .int .i64 0, .slice none 0 0]) ?_ 7 _ rfl; (with_reducible repeat (first | refine blk_drewN ?_ _ | refine blk_drew ?_ | refine blk_alloc ?_ _)); refine blk_put (cs := #[.int .i64 t531, .int .i64 t532, .int .i64 t533, .int .i64 t534, .int .i64 t535, .int .i64 t536, .int .i64 0, .int .i64 0, .slice none 0 0]) ?_ 6 _ rfl; (with_reducible repeat (first | refine blk_drewN ?_ _ | refine blk_drew ?_ | refine blk_alloc ?_ _)); refine blk_put (cs := #[.int .i64 t531, .int .i64 t532, .int .i64 t533, .int .i64 t534, .int .i64 t535, .int .i64 0, .int .i64 0, .int .i64 0, .slice none 0 0]) ?_ 5 _ rfl; (with_reducible repeat (first | refine blk_drewN ?_ _ | refine blk_drew ?_ | refine blk_alloc ?_ _)); refine blk_put (cs := #[.int .i64 t531, .int .i64 t532, .int .i64 t533, .int .i64 t534, .int .i64 0, .int .i64 0, .int .i64 0, .int .i64 0, .slice none 0 0]) ?_ 4 _ rfl; (with_reducible repeat (first | refine blk_drewN ?_ _ | refine blk_drew ?_ | refine blk_alloc ?_ _)); refine blk_put (cs := #[.int .i64 t531, .int .i64 t532, .int .i64 t533, .int .i64 0, .int .i64 0, .int .i64 0, .int .i64 0, .int .i64 0, .slice none 0 0]) ?_ 3 _ rfl; (with_reducible repeat (first | refine blk_drewN ?_ _ | refine blk_drew ?_ | refine blk_alloc ?_ _)); refine blk_put (cs := #[.int .i64 t531, .int .i64 t532, .int .i64 0, .int .i64 0, .int .i64 0, .int .i64 0, .int .i64 0, .int .i64 0, .slice none 0 0]) ?_ 2 _ rfl; (with_reducible repeat (first | refine blk_drewN ?_ _ | refine blk_drew ?_ | refine blk_alloc ?_ _)); refine blk_put (cs := #[.int .i64 t531, .int .i64 0, .int .i64 0, .int .i64 0, .int .i64 0, .int .i64 0, .int .i64 0, .int .i64 0, .slice none 0 0]) ?_ 1 _ rfl; (with_reducible repeat (first | refine blk_drewN ?_ _ | refine blk_drew ?_ | refine blk_alloc ?_ _)); refine blk_put (cs := #[.int .i64 0, .int .i64 0, .int .i64 0, .int .i64 0, .int .i64 0, .int .i64 0, .int .i64 0, .int .i64 0, .slice none 0 0]) ?_ 0 _ rfl; (with_reducible repeat (first | refine blk_drewN ?_ _ | refine blk_drew ?_ | refine blk_alloc ?_ _)); exact BK545.out) hg (Kd.N_ne HO_11.out BK545.out (by decide))); have n6_ := Aside0.mk (hb); have n7_ := Aside0.mk (ho); clear HO_508008; clear BK501; clear BK507; clear HO541; clear HO544; clear BK545; clear HB; clear HO_11; have HO_508008 := n0_; have BK501 := n1_; have BK507 := n2_; have HO541 := n3_; have HO544 := n4_; have BK545 := n5_; have HB := n6_; have HO548 := n7_; clear n0_ n1_ n2_ n3_ n4_ n5_ n6_ n7_; clear ho hb hg hat; have hcz108_0 : w106.cell? ⟨gb545, 0, none⟩ = some (.int .i64 t531) := (blk_cell BK545.out 0).trans rfl; have hcz108_1 : w106.cell? ⟨gb545, 1, none⟩ = some (.int .i64 t532) := (blk_cell BK545.out 1).trans rfl; have hcz108_2 : w106.cell? ⟨gb545, 2, none⟩ = some (.int .i64 t533) := (blk_cell BK545.out 2).trans rfl; have hcz108_3 : w106.cell? ⟨gb545, 3, none⟩ = some (.int .i64 t534) := (blk_cell BK545.out 3).trans rfl; have hcz108_4 : w106.cell? ⟨gb545, 4, none⟩ = some (.int .i64 t535) := (blk_cell BK545.out 4).trans rfl; have hcz108_5 : w106.cell? ⟨gb545, 5, none⟩ = some (.int .i64 t536) := (blk_cell BK545.out 5).trans rfl; have hcz108_6 : w106.cell? ⟨gb545, 6, none⟩ = some (.int .i64 t537) := (blk_cell BK545.out 6).trans rfl; have hcz108_7 : w106.cell? ⟨gb545, 7, none⟩ = some (.int .i64 t538) := (blk_cell BK545.out 7).trans rfl; have hcz108_8 : w106.cell? ⟨gb545, 8, none⟩ = some (.slice Ao105 t539.length co105) := (blk_cell BK545.out 8).trans rfl; have hfz108_0 := blk_frozen BK545.out 0; have hfz108_1 := blk_frozen BK545.out 1; have hfz108_2 := blk_frozen BK545.out 2; have hfz108_3 := blk_frozen BK545.out 3; have hfz108_4 := blk_frozen BK545.out 4; have hfz108_5 := blk_frozen BK545.out 5; have hfz108_6 := blk_frozen BK545.out 6; have hfz108_7 := blk_frozen BK545.out 7; have hfz108_8 := blk_frozen BK545.out 8; have hcz109_0 : w106.cell? ⟨gb507, 0, none⟩ = some (.int .i64 x508000_3) := (blk_cell BK507.out 0).trans rfl; have hcz109_1 : w106.cell? ⟨gb507, 1, none⟩ = some (.int .i64 x508001_3) := (blk_cell BK507.out 1).trans rfl; have hcz109_2 : w106.cell? ⟨gb507, 2, none⟩ = some (.int .i64 x508002_3) := (blk_cell BK507.out 2).trans rfl; have hcz109_3 : w106.cell? ⟨gb507, 3, none⟩ = some (.int .i64 x508003_3) := (blk_cell BK507.out 3).trans rfl; have hcz109_4 : w106.cell? ⟨gb507, 4, none⟩ = some (.int .i64 x508004_3) := (blk_cell BK507.out 4).trans rfl; have hcz109_5 : w106.cell? ⟨gb507, 5, none⟩ = some (.int .i64 x508005_3) := (blk_cell BK507.out 5).trans rfl; have hcz109_6 : w106.cell? ⟨gb507, 6, none⟩ = some (.int .i64 x508006_3) := (blk_cell BK507.out 6).trans rfl; have hcz109_7 : w106.cell? ⟨gb507, 7, none⟩ = some (.int .i64 x508007_3) := (blk_cell BK507.out 7).trans rfl; have hcz109_8 : w106.cell? ⟨gb507, 8, none⟩ = some (.slice Ao99 x508008_3.length co99) := (blk_cell BK507.out 8).trans rfl; have hfz109_0 := blk_frozen BK507.out 0; have hfz109_1 := blk_frozen BK507.out 1; have hfz109_2 := blk_frozen BK507.out 2; have hfz109_3 := blk_frozen BK507.out 3; have hfz109_4 := blk_frozen BK507.out 4; have hfz109_5 := blk_frozen BK507.out 5; have hfz109_6 := blk_frozen BK507.out 6; have hfz109_7 := blk_frozen BK507.out 7; have hfz109_8 := blk_frozen BK507.out 8) | ((with_reducible refine gate_callee (f := 20) rfl ?_); refine goesL_ (some 105) rfl rfl Try.func20 (by kernel_rfl) rfl #[.agg #[.int .i64 t531, .int .i64 t532, .int .i64 t533, .int .i64 t534, .int .i64 t535, .int .i64 t536, .int .i64 t537, .int .i64 t538], .int .i64 x2_3] rfl (by (try simp only [List.map_toArray, List.map_cons, List.map_nil]); first | done | rfl | (simp only [List.length_drop, List.length_take]; rfl)) ?_; (with_reducible refine (rate_Wait.calls kj62 t531 t532 t533 t534 t535 t536 t537 t538 x2_3 t549 _ A72.out).mono ?_); rintro e w110 ⟨rfl, hb⟩; refine ⟨_, rfl, ?_⟩; have n0_ := Aside0.mk (Kd.V_below (by (with_reducible repeat (first | apply Kd.V_alloc | apply Kd.V_drewN | apply Kd.V_drew)); have zf780_ := Kd.V_mono HO_508008.out (fun k_ hk => (⟨hk, hk.1.2.2.2.1⟩ : _ ∧ k_ ≠ gb507)); exact (Kd.V_mono ((V_thru7_ zf780_ (by intro zz_; repeat (first | with_reducible exact zz_ | with_reducible refine Kd.V_far ?_ (by first | exact (fun _ hk => hk.2)) _ | with_reducible refine Kd.V_drewN ?_ _ | with_reducible apply Kd.V_drew | with_reducible apply Kd.V_alloc)))) (fun _ h_ => h_.1))) hb); have n1_ := Aside0.mk (Kd.N_below (by (with_reducible repeat (first | apply Kd.N_alloc | apply Kd.N_drewN | apply Kd.N_drew)); have zf790_ := Kd.N_mono HO541.out (fun k_ hk => (⟨hk, hk.1.2.2.1⟩ : _ ∧ k_ ≠ gb507)); exact (Kd.N_mono ((N_thru7_ zf790_ (by intro zz_; repeat (first | with_reducible exact zz_ | with_reducible refine Kd.N_far ?_ (by first | exact (fun _ hk => hk.2)) _ | with_reducible refine Kd.N_drewN ?_ _ | with_reducible apply Kd.N_drew | with_reducible apply Kd.N_alloc)))) (fun _ h_ => h_.1))) hb); have n2_ := Aside0.mk (Kd.N_below (by (with_reducible repeat (first | apply Kd.N_alloc | apply Kd.N_drewN | apply Kd.N_drew)); have zf800_ := Kd.N_mono HO544.out (fun k_ hk => (⟨hk, hk.1.2.2.1⟩ : _ ∧ k_ ≠ gb507)); exact (Kd.N_mono ((N_thru7_ zf800_ (by intro zz_; repeat (first | with_reducible exact zz_ | with_reducible refine Kd.N_far ?_ (by first | exact (fun _ hk => hk.2)) _ | with_reducible refine Kd.N_drewN ?_ _ | with_reducible apply Kd.N_drew | with_reducible apply Kd.N_alloc)))) (fun _ h_ => h_.1))) hb); have n3_ := Aside0.mk (Kd.N_below (by (with_reducible repeat (first | apply Kd.N_alloc | apply Kd.N_drewN | apply Kd.N_drew)); have zf810_ := Kd.N_mono HO548.out (fun k_ hk => (⟨hk, hk.2.2.1⟩ : _ ∧ k_ ≠ gb507)); exact (Kd.N_mono ((N_thru7_ zf810_ (by intro zz_; repeat (first | with_reducible exact zz_ | with_reducible refine Kd.N_far ?_ (by first | exact (fun _ hk => hk.2)) _ | with_reducible refine Kd.N_drewN ?_ _ | with_reducible apply Kd.N_drew | with_reducible apply Kd.N_alloc)))) (fun _ h_ => h_.1))) hb); have n4_ := Aside0.mk (blk_below (g := gb501) (o := .cells #[.int .i64 a0_0, .int .i64 a0_1, .int .i64 a0_2, .int .i64 a0_3, .int .i64 a0_4, .int .i64 a0_5, .int .i64 a0_6, .int .i64 a0_7] 23 (0, 0)) (by (with_reducible repeat (first | refine blk_drewN ?_ _ | refine blk_drew ?_ | refine blk_alloc ?_ _)); (iterate 9 (refine blk_far ?_ NB501_507.out _; (with_reducible repeat (first | refine blk_drewN ?_ _ | refine blk_drew ?_ | refine blk_alloc ?_ _)))); exact BK501.out) hb); have n5_ := Aside0.mk (blk_below (g := gb507) (o := .cells #[.int .i64 t531, .int .i64 t532, .int .i64 t533, .int .i64 t534, .int .i64 t535, .int .i64 t536, .int .i64 t537, .int .i64 t538, .slice Ao105 t539.length co105] 36 (0, 0)) (by (with_reducible repeat (first | refine blk_drewN ?_ _ | refine blk_drew ?_ | refine blk_alloc ?_ _)); refine blk_put (cs := #[.int .i64 t531, .int .i64 t532, .int .i64 t533, .int .i64 t534, .int .i64 t535, .int .i64 t536, .int .i64 t537, .int .i64 t538, .slice Ao99 x508008_3.length co99]) ?_ 8 _ rfl; (with_reducible repeat (first | refine blk_drewN ?_ _ | refine blk_drew ?_ | refine blk_alloc ?_ _)); refine blk_put (cs := #[.int .i64 t531, .int .i64 t532, .int .i64 t533, .int .i64 t534, .int .i64 t535, .int .i64 t536, .int .i64 t537, .int .i64 x508007_3, .slice Ao99 x508008_3.length co99]) ?_ 7 _ rfl; (with_reducible repeat (first | refine blk_drewN ?_ _ | refine blk_drew ?_ | refine blk_alloc ?_ _)); refine blk_put (cs := #[.int .i64 t531, .int .i64 t532, .int .i64 t533, .int .i64 t534, .int .i64 t535, .int .i64 t536, .int .i64 x508006_3, .int .i64 x508007_3, .slice Ao99 x508008_3.length co99]) ?_ 6 _ rfl; (with_reducible repeat (first | refine blk_drewN ?_ _ | refine blk_drew ?_ | refine blk_alloc ?_ _)); refine blk_put (cs := #[.int .i64 t531, .int .i64 t532, .int .i64 t533, .int .i64 t534, .int .i64 t535, .int .i64 x508005_3, .int .i64 x508006_3, .int .i64 x508007_3, .slice Ao99 x508008_3.length co99]) ?_ 5 _ rfl; (with_reducible repeat (first | refine blk_drewN ?_ _ | refine blk_drew ?_ | refine blk_alloc ?_ _)); refine blk_put (cs := #[.int .i64 t531, .int .i64 t532, .int .i64 t533, .int .i64 t534, .int .i64 x508004_3, .int .i64 x508005_3, .int .i64 x508006_3, .int .i64 x508007_3, .slice Ao99 x508008_3.length co99]) ?_ 4 _ rfl; (with_reducible repeat (first | refine blk_drewN ?_ _ | refine blk_drew ?_ | refine blk_alloc ?_ _)); refine blk_put (cs := #[.int .i64 t531, .int .i64 t532, .int .i64 t533, .int .i64 x508003_3, .int .i64 x508004_3, .int .i64 x508005_3, .int .i64 x508006_3, .int .i64 x508007_3, .slice Ao99 x508008_3.length co99]) ?_ 3 _ rfl; (with_reducible repeat (first | refine blk_drewN ?_ _ | refine blk_drew ?_ | refine blk_alloc ?_ _)); refine blk_put (cs := #[.int .i64 t531, .int .i64 t532, .int .i64 x508002_3, .int .i64 x508003_3, .int .i64 x508004_3, .int .i64 x508005_3, .int .i64 x508006_3, .int .i64 x508007_3, .slice Ao99 x508008_3.length co99]) ?_ 2 _ rfl; (with_reducible repeat (first | refine blk_drewN ?_ _ | refine blk_drew ?_ | refine blk_alloc ?_ _)); refine blk_put (cs := #[.int .i64 t531, .int .i64 x508001_3, .int .i64 x508002_3, .int .i64 x508003_3, .int .i64 x508004_3, .int .i64 x508005_3, .int .i64 x508006_3, .int .i64 x508007_3, .slice Ao99 x508008_3.length co99]) ?_ 1 _ rfl; (with_reducible repeat (first | refine blk_drewN ?_ _ | refine blk_drew ?_ | refine blk_alloc ?_ _)); refine blk_put (cs := #[.int .i64 x508000_3, .int .i64 x508001_3, .int .i64 x508002_3, .int .i64 x508003_3, .int .i64 x508004_3, .int .i64 x508005_3, .int .i64 x508006_3, .int .i64 x508007_3, .slice Ao99 x508008_3.length co99]) ?_ 0 _ rfl; (with_reducible repeat (first | refine blk_drewN ?_ _ | refine blk_drew ?_ | refine blk_alloc ?_ _)); exact BK507.out) hb); have n6_ := Aside0.mk (blk_below (g := gb545) (o := .cells #[.int .i64 t531, .int .i64 t532, .int .i64 t533, .int .i64 t534, .int .i64 t535, .int .i64 t536, .int .i64 t537, .int .i64 t538, .slice Ao105 t539.length co105] 36 (0, 0)) (by (with_reducible repeat (first | refine blk_drewN ?_ _ | refine blk_drew ?_ | refine blk_alloc ?_ _)); (iterate 9 (refine blk_far ?_ NB545_507.out _; (with_reducible repeat (first | refine blk_drewN ?_ _ | refine blk_drew ?_ | refine blk_alloc ?_ _)))); exact BK545.out) hb); have n7_ := Aside0.mk (below_step (by repeat (first | (with_reducible first | exact HB.out | apply below_alloc | apply pw_below_drewN | apply below_drew1 | refine below_set ?_ GE501.out | refine below_set ?_ GE507.out | refine below_set ?_ GE545.out) | exact HB.out)) hb); clear HO_508008; clear HO541; clear HO544; clear HO548; clear BK501; clear BK507; clear BK545; clear HB; have HO_508008 := n0_; have HO541 := n1_; have HO544 := n2_; have HO548 := n3_; have BK501 := n4_; have BK507 := n5_; have BK545 := n6_; have HB := n7_; clear n0_ n1_ n2_ n3_ n4_ n5_ n6_ n7_; (try clear hb); (try clear hb2); (try clear hk); (try clear hi)))
               go_roundg kj62
               case measure => have := HJ3.out; have := HK2.out; have := HK3.out; have := HJ62.out; omega
               case rel => exact ⟨(wrap64 (x2_3 + t549)), (y546), (wrap64 (x12_3 + 1)), (t531), (t532), (t533), (t534), (t535), (t536), (t537), (t538), (t539), (.slice Ao105 t539.length co105), (by first | rfl | (simp; done) | (simp [*]; done)), (by first | rfl | (simp; done) | (simp [*]; done)), H', ⟨by have := HJ3.out; have := HK2.out; have := HK3.out; have := HJ62.out; omega⟩, ⟨by (with_reducible repeat (first | apply Kd.N_alloc | apply Kd.N_drewN | apply Kd.N_drew)); exact Kd.N_mono HO548.out (fun _ hk => ⟨hk.2.1, hk.2.2.1⟩)⟩, ⟨Kd.N_V (by (with_reducible repeat (first | apply Kd.N_alloc | apply Kd.N_drewN | apply Kd.N_drew)); exact Kd.N_mono HO541.out (fun _ hk => ⟨hk.2, ⟨hk.1.2.1, hk.1.2.2.1⟩⟩))⟩, ⟨by (with_reducible repeat (first | refine blk_drewN ?_ _ | refine blk_drew ?_ | refine blk_alloc ?_ _)); exact BK501.out⟩, ⟨by (with_reducible repeat (first | refine blk_drewN ?_ _ | refine blk_drew ?_ | refine blk_alloc ?_ _)); exact BK507.out⟩, ⟨by repeat (first | (with_reducible first | exact HB.out | apply below_alloc | apply pw_below_drewN | apply below_drew1 | refine below_set ?_ GE501.out | refine below_set ?_ GE507.out | refine below_set ?_ GE545.out) | exact HB.out)⟩⟩
             ·
              rw [if_neg c71] at H
              have c71b0 : ((wrap64 ((t542.length : Int) + (t539.length : Int))) == (x508008_3.length : Int)) = false := beq_eq_false_iff_ne.mpr c71
              have c71b1 : ((wrap64 ((t542.length : Int) + (t539.length : Int))) != (x508008_3.length : Int)) = true := bne_iff_ne.mpr c71
              exact absurd (Option.some.inj H) (by rw [HT_.out]; exact Bool.false_ne_true)
            ·
             rw [if_neg c70] at H
             exact absurd H (by simp)
           ·
            replace c68 := Bool.eq_false_iff.mpr c68
            subst c68
            have H1 : (if x11_3.length + x508008_3.length < 977343669134 then ((wharfref14_List.f kj62 (x11_3 ++ x508008_3) l1).bind fun t529 => (if t529 = true then ((wharflaw19_live.f kj62).bind fun t530 => (some t530)) else (some false))) else (none)) = some r := by rw [if_neg (show ¬ (false = true) by decide)] at H; exact H
            clear H
            have H := H1
            clear H1
            by_cases c111 : x11_3.length + x508008_3.length < 977343669134
            ·
             rw [if_pos c111] at H
             have LMc111 := Aside0.mk c111
             clear c111
             obtain ⟨y526, hy526⟩ : ∃ y_ : List (S41), y_ = (x11_3 ++ x508008_3) := ⟨_, rfl⟩
             replace H : ((wharfref14_List.f kj62 y526 l1).bind fun t529 => (if t529 = true then ((wharflaw19_live.f kj62).bind fun t530 => (some t530)) else (some false))) = some r := by first | (rw [hy526]; with_reducible exact H) | (have H2_ := (Option.bind_some _ _).symm.trans H; rw [hy526]; with_reducible exact H2_) | (have H2_ := (Option.bind_some _ _).symm.trans H; with_reducible exact H2_) | with_reducible exact H | (rw [hy526]; exact H) | exact H
             have Ny526 := Aside0.mk hy526
             clear hy526
             replace H := Option.bind_eq_some_iff.mp H
             obtain ⟨t529, A1120, H⟩ := H
             replace H : (if t529 = true then ((wharflaw19_live.f kj62).bind fun t530 => (some t530)) else (some false)) = some r := H
             have A112 := Aside0.mk A1120
             clear A1120
             by_cases c113 : t529 = true
             ·
              subst c113
              have H1 : ((wharflaw19_live.f kj62).bind fun t530 => (some t530)) = some r := by rw [if_pos rfl] at H; exact H
              clear H
              have H := H1
              clear H1
              replace H := Option.bind_eq_some_iff.mp H
              obtain ⟨t530, A1140, H⟩ := H
              replace H : (some t530) = some r := H
              have A114 := Aside0.mk A1140
              clear A1140
              obtain rfl := Option.some.inj H
              have hnb115 := NB507_501.out
              have hnc115 := NB501_507.out
              have hcz116_0 : wc.cell? ⟨gb507, 0, none⟩ = some (.int .i64 x508000_3) := (blk_cell BK507.out 0).trans rfl
              have hcz116_1 : wc.cell? ⟨gb507, 1, none⟩ = some (.int .i64 x508001_3) := (blk_cell BK507.out 1).trans rfl
              have hcz116_2 : wc.cell? ⟨gb507, 2, none⟩ = some (.int .i64 x508002_3) := (blk_cell BK507.out 2).trans rfl
              have hcz116_3 : wc.cell? ⟨gb507, 3, none⟩ = some (.int .i64 x508003_3) := (blk_cell BK507.out 3).trans rfl
              have hcz116_4 : wc.cell? ⟨gb507, 4, none⟩ = some (.int .i64 x508004_3) := (blk_cell BK507.out 4).trans rfl
              have hcz116_5 : wc.cell? ⟨gb507, 5, none⟩ = some (.int .i64 x508005_3) := (blk_cell BK507.out 5).trans rfl
              have hcz116_6 : wc.cell? ⟨gb507, 6, none⟩ = some (.int .i64 x508006_3) := (blk_cell BK507.out 6).trans rfl
              have hcz116_7 : wc.cell? ⟨gb507, 7, none⟩ = some (.int .i64 x508007_3) := (blk_cell BK507.out 7).trans rfl
              have hcz116_8 : wc.cell? ⟨gb507, 8, none⟩ = some (u508008) := (blk_cell BK507.out 8).trans rfl
              have hfz116_0 := blk_frozen BK507.out 0
              have hfz116_1 := blk_frozen BK507.out 1
              have hfz116_2 := blk_frozen BK507.out 2
              have hfz116_3 := blk_frozen BK507.out 3
              have hfz116_4 := blk_frozen BK507.out 4
              have hfz116_5 := blk_frozen BK507.out 5
              have hfz116_6 := blk_frozen BK507.out 6
              have hfz116_7 := blk_frozen BK507.out 7
              have hfz116_8 := blk_frozen BK507.out 8
              obtain ⟨Ao118, co118, eo118⟩ := Kd.V_slice HO_508008.out
              subst eo118
              go_wp2_with (first | ((with_reducible refine gate_builtin (b := .append) (xs := #[.tmp 113, .tmp 115]) rfl ?_); (try (refine gate_guard (by rfl) ?_; dsimp only)); at_builtin; refine Kd.N_append_rows k41 (w0 := w) w.heap.size rfl (.tmp 113) (.tmp 115) 34 41 (.agg #[(.int .i64 0), (.string ⟨#[]⟩), (.string ⟨#[]⟩), (.string ⟨#[]⟩), (.int .i64 0), (.int .i64 0), (.int .i64 0), (.int .i64 0), (.bool false), (.slice none 0 0), (.slice none 0 0)]) 144 rfl Try.underlying34 info41 rfl (by decide) (by omega) u11 x11_3 x508008_3 _ _ _ (fun k_ => k_ ≠ gb501 ∧ k_ ≠ gb507) (fun k_ => ((fun k_ => k_ ≠ gb501 ∧ k_ ≠ gb507)) k_ ∧ some k_ ≠ (u11 : Value).ownBlock) rfl rfl ?aO ?aR (fun _ hk => hk) ?aF ?aB ?aS ?aL ?_; (case aR => exact (by skip; exact Kd.V_F (Kd.V_mono (ok' := (fun k_ => ((fun k_ => k_ ≠ gb501 ∧ k_ ≠ gb507)) k_ ∧ some k_ ≠ (u11 : Value).ownBlock)) (HO_508008.out) (fun k_ hk => ⟨⟨hk.2.1, hk.2.2⟩, hk.1⟩)))); (case aB => exact (by repeat (first | (with_reducible first | exact HB.out | apply below_alloc | apply pw_below_drewN | apply below_drew1 | refine below_set ?_ GE501.out | refine below_set ?_ GE507.out) | exact HB.out))); (case aF => exact (fun k_ hk => ⟨Kd.freshB (g := gb501) (o := .cells #[.int .i64 a0_0, .int .i64 a0_1, .int .i64 a0_2, .int .i64 a0_3, .int .i64 a0_4, .int .i64 a0_5, .int .i64 a0_6, .int .i64 a0_7] 23 (0, 0)) (by (with_reducible repeat (first | refine blk_drewN ?_ _ | refine blk_drew ?_ | refine blk_alloc ?_ _)); exact BK501.out) k_ hk, Kd.freshB (g := gb507) (o := .cells #[.int .i64 x508000_3, .int .i64 x508001_3, .int .i64 x508002_3, .int .i64 x508003_3, .int .i64 x508004_3, .int .i64 x508005_3, .int .i64 x508006_3, .int .i64 x508007_3, .slice Ao118 x508008_3.length co118] 36 (0, 0)) (by (with_reducible repeat (first | refine blk_drewN ?_ _ | refine blk_drew ?_ | refine blk_alloc ?_ _)); exact BK507.out) k_ hk⟩)); (case aO => exact (by (with_reducible repeat (first | apply Kd.N_alloc | apply Kd.N_drewN | apply Kd.N_drew)); exact HO_11.out)); (case aS => exact (below_size (by repeat (first | (with_reducible first | exact HB.out | apply below_alloc | apply pw_below_drewN | apply below_drew1 | refine below_set ?_ GE501.out | refine below_set ?_ GE507.out) | exact HB.out)))); (case aL => have := LMc111.out; omega); intro v527 w117 ho hb hg hat; rw [← Ny526.out] at ho; have n0_ := Aside0.mk (Kd.V_afterv (ok := (fun k_ => k_ ≠ gb501 ∧ k_ ≠ gb507)) (by (with_reducible repeat (first | apply Kd.V_alloc | apply Kd.V_drewN | apply Kd.V_drew)); exact Kd.V_mono HO_508008.out (fun _ hk => ⟨⟨hk.2.1, hk.2.2⟩, hk.1⟩)) hg hat); have n1_ := Aside0.mk (blk_grown (g := gb501) (o := .cells #[.int .i64 a0_0, .int .i64 a0_1, .int .i64 a0_2, .int .i64 a0_3, .int .i64 a0_4, .int .i64 a0_5, .int .i64 a0_6, .int .i64 a0_7] 23 (0, 0)) (by (with_reducible repeat (first | refine blk_drewN ?_ _ | refine blk_drew ?_ | refine blk_alloc ?_ _)); exact BK501.out) hg (Kd.N_ne HO_11.out BK501.out (by decide))); have n2_ := Aside0.mk (blk_grown (g := gb507) (o := .cells #[.int .i64 x508000_3, .int .i64 x508001_3, .int .i64 x508002_3, .int .i64 x508003_3, .int .i64 x508004_3, .int .i64 x508005_3, .int .i64 x508006_3, .int .i64 x508007_3, .slice Ao118 x508008_3.length co118] 36 (0, 0)) (by (with_reducible repeat (first | refine blk_drewN ?_ _ | refine blk_drew ?_ | refine blk_alloc ?_ _)); exact BK507.out) hg (Kd.N_ne HO_11.out BK507.out (by decide))); have n3_ := Aside0.mk (hb); have n4_ := Aside0.mk (ho); clear HO_508008; clear BK501; clear BK507; clear HB; clear HO_11; have HO_508008 := n0_; have BK501 := n1_; have BK507 := n2_; have HB := n3_; have HO528 := n4_; clear n0_ n1_ n2_ n3_ n4_; clear ho hb hg hat; obtain ⟨Ao119, co119, eo119⟩ := Kd.N_slice HO528.out; subst eo119) | ((with_reducible refine gate_callee (f := 27) rfl ?_); refine goesL_ (some 119) rfl rfl Try.func27 (by kernel_rfl) rfl #[.slice Ao119 y526.length co119, .slice A1 l1.length c1] rfl (by (try simp only [List.map_toArray, List.map_cons, List.map_nil]); first | done | rfl | (simp only [List.length_drop, List.length_take]; rfl)) ?_; (with_reducible refine (wharfref14_List.calls kj62 _ _ y526 _ _ l1 true _ ?side1 ?side2 ?side3 ?side4 A112.out).mono ?_); (case side1 => repeat (first | exact (Kd.N_reads' HO528.out).2.2 | (with_reducible refine Kd.C_alloc ?_ _) | (with_reducible refine Kd.C_drewN ?_ _) | (with_reducible refine Kd.C_drew ?_))); (case side2 => exact (Kd.N_reads' HO528.out).2.1); (case side3 => repeat (first | exact (Kd.C_below HR1.out HB.out) | (with_reducible refine Kd.C_alloc ?_ _) | (with_reducible refine Kd.C_drewN ?_ _) | (with_reducible refine Kd.C_drew ?_))); (case side4 => exact HC1.out); rintro e w120 ⟨rfl, hb⟩; refine ⟨_, rfl, ?_⟩; have n0_ := Aside0.mk (Kd.V_below (by (with_reducible repeat (first | apply Kd.V_alloc | apply Kd.V_drewN | apply Kd.V_drew)); exact HO_508008.out) hb); have n1_ := Aside0.mk (Kd.N_below (by (with_reducible repeat (first | apply Kd.N_alloc | apply Kd.N_drewN | apply Kd.N_drew)); exact HO528.out) hb); have n2_ := Aside0.mk (blk_below (g := gb501) (o := .cells #[.int .i64 a0_0, .int .i64 a0_1, .int .i64 a0_2, .int .i64 a0_3, .int .i64 a0_4, .int .i64 a0_5, .int .i64 a0_6, .int .i64 a0_7] 23 (0, 0)) (by (with_reducible repeat (first | refine blk_drewN ?_ _ | refine blk_drew ?_ | refine blk_alloc ?_ _)); exact BK501.out) hb); have n3_ := Aside0.mk (blk_below (g := gb507) (o := .cells #[.int .i64 x508000_3, .int .i64 x508001_3, .int .i64 x508002_3, .int .i64 x508003_3, .int .i64 x508004_3, .int .i64 x508005_3, .int .i64 x508006_3, .int .i64 x508007_3, .slice Ao118 x508008_3.length co118] 36 (0, 0)) (by (with_reducible repeat (first | refine blk_drewN ?_ _ | refine blk_drew ?_ | refine blk_alloc ?_ _)); exact BK507.out) hb); have n4_ := Aside0.mk (below_step (by repeat (first | (with_reducible first | exact HB.out | apply below_alloc | apply pw_below_drewN | apply below_drew1 | refine below_set ?_ GE501.out | refine below_set ?_ GE507.out) | exact HB.out)) hb); clear HO_508008; clear HO528; clear BK501; clear BK507; clear HB; have HO_508008 := n0_; have HO528 := n1_; have BK501 := n2_; have BK507 := n3_; have HB := n4_; clear n0_ n1_ n2_ n3_ n4_; (try clear hb); (try clear hb2); (try clear hk); (try clear hi)) | (go_at_call 13; (with_reducible refine (wharflaw19_live.calls kj62  t530 _ A114.out).mono ?_); rintro e w121 ⟨rfl, hb⟩; have n0_ := Aside0.mk (Kd.V_below (by (with_reducible repeat (first | apply Kd.V_alloc | apply Kd.V_drewN | apply Kd.V_drew)); exact HO_508008.out) hb); have n1_ := Aside0.mk (Kd.N_below (by (with_reducible repeat (first | apply Kd.N_alloc | apply Kd.N_drewN | apply Kd.N_drew)); exact HO528.out) hb); have n2_ := Aside0.mk (blk_below (g := gb501) (o := .cells #[.int .i64 a0_0, .int .i64 a0_1, .int .i64 a0_2, .int .i64 a0_3, .int .i64 a0_4, .int .i64 a0_5, .int .i64 a0_6, .int .i64 a0_7] 23 (0, 0)) (by (with_reducible repeat (first | refine blk_drewN ?_ _ | refine blk_drew ?_ | refine blk_alloc ?_ _)); exact BK501.out) hb); have n3_ := Aside0.mk (blk_below (g := gb507) (o := .cells #[.int .i64 x508000_3, .int .i64 x508001_3, .int .i64 x508002_3, .int .i64 x508003_3, .int .i64 x508004_3, .int .i64 x508005_3, .int .i64 x508006_3, .int .i64 x508007_3, .slice Ao118 x508008_3.length co118] 36 (0, 0)) (by (with_reducible repeat (first | refine blk_drewN ?_ _ | refine blk_drew ?_ | refine blk_alloc ?_ _)); exact BK507.out) hb); have n4_ := Aside0.mk (below_step (by repeat (first | (with_reducible first | exact HB.out | apply below_alloc | apply pw_below_drewN | apply below_drew1 | refine below_set ?_ GE501.out | refine below_set ?_ GE507.out) | exact HB.out)) hb); clear HO_508008; clear HO528; clear BK501; clear BK507; clear HB; have HO_508008 := n0_; have HO528 := n1_; have BK501 := n2_; have BK507 := n3_; have HB := n4_; clear n0_ n1_ n2_ n3_ n4_; (try clear hb); (try clear hb2); (try clear hk); (try clear hi)))
              go_ret
              exact ⟨by first | rfl | (simp [errW_none, errW_some] <;> rfl) | (simp [*, errW_none, errW_some] <;> rfl), by repeat (first | (with_reducible first | exact HB.out | apply below_alloc | apply pw_below_drewN | apply below_drew1 | refine below_set ?_ GE501.out | refine below_set ?_ GE507.out) | exact HB.out)⟩
             ·
              replace c113 := Bool.eq_false_iff.mpr c113
              subst c113
              have H1 : (some false) = some r := by rw [if_neg (show ¬ (false = true) by decide)] at H; exact H
              clear H
              have H := H1
              clear H1
              exact absurd (Option.some.inj H) (by rw [HT_.out]; exact Bool.false_ne_true)
            ·
             rw [if_neg c111] at H
             exact absurd H (by simp)

end Go.Proofs.Ytbeclnffcapfpaa.H
