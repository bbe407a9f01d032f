-- written by hp.py for this claim, out of the kit's printer and texts of my own
import Derived.Test.YtbeclnffcapfpaaHx0
import Derived.Test.YtbeclnffcapfpaaHx9
import Derived.Test.YtbeclnffcapfpaaHx10
import Derived.Test.YtbeclnffcapfpaaHx13
import Derived.Test.YtbeclnffcapfpaaHx22
import Derived.Test.YtbeclnffcapfpaaHx23
namespace Go.Proofs.Ytbeclnffcapfpaa.H
open Go.RowKit Go.Proofs.YtbeclnffcapfpaaW.PrintWords Go.Proofs.YtbeclnffcapfpaaW.PrintLast Go.Proofs.YtbeclnffcapfpaaW.PrintMore
theorem V_thru8_ {α : Type} {d : Kd α} {e base : Nat} {w w' : World} {ok : Nat → Prop} {v : Value} {xs : List α} (h : Kd.V d e w base ok v xs) (f : Kd.V d e w base ok v xs → Kd.V d e w' base ok v xs) : Kd.V d e w' base ok v xs := f h
attribute [local go_sem] max2_int min2_int max_two min_two max_three min_three max_four min_four   -- for this text's walks alone
set_option linter.unusedVariables false
set_option linter.unusedSimpArgs false

/-! ### wharflaw19_RateFull: function 8 -/
mutual
def wharflaw19_RateFull.j0 : Nat → Int → Bool → Int → Int → Int → Int → Int → Int → Int → Int → Int → ByteArray → ByteArray → ByteArray → Int → Int → Int → Int → Bool → List (S69) → List Int → Option (Bool)
 | 0, _, _, _, _, _, _, _, _, _, _, _, _, _, _, _, _, _, _, _, _, _ => none
 | k + 1, x2, x42, x556000, x556001, x556002, x556003, x556004, x556005, x556006, x556007, x557000, x557001, x557002, x557003, x557004, x557005, x557006, x557007, x557008, x557009, x557010 => if x42 = true then ((wharflaw19_live.f k).bind fun t560 => (some t560)) else ((rate_Push.f k x556000 x556001 x556002 x556003 x556004 x556005 x556006 x556007 ([] : List (S41)) 11 (⟨#[]⟩ : ByteArray) (⟨#[]⟩ : ByteArray) (⟨#[]⟩ : ByteArray) 0 0 0 0 false ([] : List (S69)) ([] : List Int)).bind fun bt561 => ((wharflaw19_num.f bt561.2.2.2.2.2.2.2.2.2).bind fun t574 => (if t574 = 0 then (wharflaw19_RateFull.l0 k x2 1 x557000 x557001 x557002 x557003 x557004 x557005 x557006 x557007 x557008 x557009 x557010 bt561.1 bt561.2.1 bt561.2.2.1 bt561.2.2.2.1 bt561.2.2.2.2.1 bt561.2.2.2.2.2.1 bt561.2.2.2.2.2.2.1 bt561.2.2.2.2.2.2.2.1 bt561.2.2.2.2.2.2.2.2.1) else (some false))))
def wharflaw19_RateFull.l0 : Nat → Int → Int → Int → ByteArray → ByteArray → ByteArray → Int → Int → Int → Int → Bool → List (S69) → List Int → Int → Int → Int → Int → Int → Int → Int → Int → List (S41) → Option (Bool)
 | 0, _, _, _, _, _, _, _, _, _, _, _, _, _, _, _, _, _, _, _, _, _, _ => none
 | k + 1, x2, x9, x557000, x557001, x557002, x557003, x557004, x557005, x557006, x557007, x557008, x557009, x557010, x574000, x574001, x574002, x574003, x574004, x574005, x574006, x574007, x574008 => if x9 < 16 then ((rate_Push.f k x574000 x574001 x574002 x574003 x574004 x574005 x574006 x574007 x574008 x557000 x557001 x557002 x557003 x557004 x557005 x557006 x557007 x557008 x557009 x557010).bind fun bt575 => ((wharflaw19_num.f bt575.2.2.2.2.2.2.2.2.2).bind fun t588 => (if t588 = 0 then (wharflaw19_RateFull.l0 k x2 (wrap64 (x9 + 1)) x557000 x557001 x557002 x557003 x557004 x557005 x557006 x557007 x557008 x557009 x557010 bt575.1 bt575.2.1 bt575.2.2.1 bt575.2.2.2.1 bt575.2.2.2.2.1 bt575.2.2.2.2.2.1 bt575.2.2.2.2.2.2.1 bt575.2.2.2.2.2.2.2.1 bt575.2.2.2.2.2.2.2.2.1) else (some false)))) else ((rate_Push.f k x574000 x574001 x574002 x574003 x574004 x574005 x574006 x574007 x574008 x557000 x557001 x557002 x557003 x557004 x557005 x557006 x557007 x557008 x557009 x557010).bind fun bt589 => ((rate_Push.f k x574000 x574001 x574002 x574003 x574004 x574005 x574006 x574007 x574008 11 (⟨#[]⟩ : ByteArray) (⟨#[]⟩ : ByteArray) (⟨#[]⟩ : ByteArray) 0 x2 0 0 false ([] : List (S69)) ([] : List Int)).bind fun bt602 => ((wharflaw19_num.f bt589.2.2.2.2.2.2.2.2.2).bind fun t615 => (if t615 = 5 then ((wharflaw19_num.f bt602.2.2.2.2.2.2.2.2.2).bind fun t616 => (if t616 = 0 then (if (bt602.2.2.2.2.2.2.2.2.1.length : Int) = 16 then (if 0 < (bt602.2.2.2.2.2.2.2.2.1.length : Int) then (if ((rd_T41 bt602.2.2.2.2.2.2.2.2.1 0).f5) = x2 then ((wharflaw19_live.f k).bind fun t618 => (some t618)) else (some false)) else (none)) else (some false)) else (some false))) else (some false)))))
end
def wharflaw19_RateFull.f (k : Nat) (a0_0 : Int) (a0_1 : Int) (a0_2 : Int) (a0_3 : Int) (a0_4 : Int) (a0_5 : Int) (a0_6 : Int) (a0_7 : Int) (a1_0 : Int) (a1_1 : ByteArray) (a1_2 : ByteArray) (a1_3 : ByteArray) (a1_4 : Int) (a1_5 : Int) (a1_6 : Int) (a1_7 : Int) (a1_8 : Bool) (l1_9 : List (S69)) (l1_10 : List Int) (a2 : Int) : Option (Bool) := (rate_Check.f k a0_0 a0_1 a0_2 a0_3 a0_4 a0_5 a0_6 a0_7).bind fun t557 => ((wharflaw19_num.f t557).bind fun t558 => (if t558 = 0 then ((wharflaw19_note.f k a1_0 a1_1 a1_2 a1_3 a1_4 a1_5 a1_6 a1_7 a1_8 l1_9 l1_10).bind fun t559 => (if t559 > 2000 then (wharflaw19_RateFull.j0 k a2 true a0_0 a0_1 a0_2 a0_3 a0_4 a0_5 a0_6 a0_7 a1_0 a1_1 a1_2 a1_3 a1_4 a1_5 a1_6 a1_7 a1_8 l1_9 l1_10) else (if a1_0 = 11 then (wharflaw19_RateFull.j0 k a2 true a0_0 a0_1 a0_2 a0_3 a0_4 a0_5 a0_6 a0_7 a1_0 a1_1 a1_2 a1_3 a1_4 a1_5 a1_6 a1_7 a1_8 l1_9 l1_10) else (if a1_0 = 12 then (wharflaw19_RateFull.j0 k a2 true a0_0 a0_1 a0_2 a0_3 a0_4 a0_5 a0_6 a0_7 a1_0 a1_1 a1_2 a1_3 a1_4 a1_5 a1_6 a1_7 a1_8 l1_9 l1_10) else (if a2 < 0 then (wharflaw19_RateFull.j0 k a2 true a0_0 a0_1 a0_2 a0_3 a0_4 a0_5 a0_6 a0_7 a1_0 a1_1 a1_2 a1_3 a1_4 a1_5 a1_6 a1_7 a1_8 l1_9 l1_10) else (wharflaw19_RateFull.j0 k a2 (decide (a2 > 65535)) a0_0 a0_1 a0_2 a0_3 a0_4 a0_5 a0_6 a0_7 a1_0 a1_1 a1_2 a1_3 a1_4 a1_5 a1_6 a1_7 a1_8 l1_9 l1_10)))))) else (wharflaw19_RateFull.j0 k a2 true a0_0 a0_1 a0_2 a0_3 a0_4 a0_5 a0_6 a0_7 a1_0 a1_1 a1_2 a1_3 a1_4 a1_5 a1_6 a1_7 a1_8 l1_9 l1_10)))
theorem wharflaw19_RateFull.mono_l : ∀ k, (∀ y0 y1 y2 y3 y4 y5 y6 y7 y8 y9 y10 y11 y12 y13 y14 y15 y16 y17 y18 y19 y20, LeO (wharflaw19_RateFull.j0 k y0 y1 y2 y3 y4 y5 y6 y7 y8 y9 y10 y11 y12 y13 y14 y15 y16 y17 y18 y19 y20) (wharflaw19_RateFull.j0 (k + 1) y0 y1 y2 y3 y4 y5 y6 y7 y8 y9 y10 y11 y12 y13 y14 y15 y16 y17 y18 y19 y20)) ∧ (∀ y0 y1 y2 y3 y4 y5 y6 y7 y8 y9 y10 y11 y12 y13 y14 y15 y16 y17 y18 y19 y20 y21, LeO (wharflaw19_RateFull.l0 k y0 y1 y2 y3 y4 y5 y6 y7 y8 y9 y10 y11 y12 y13 y14 y15 y16 y17 y18 y19 y20 y21) (wharflaw19_RateFull.l0 (k + 1) y0 y1 y2 y3 y4 y5 y6 y7 y8 y9 y10 y11 y12 y13 y14 y15 y16 y17 y18 y19 y20 y21))
 | 0 => ⟨fun _ _ _ _ _ _ _ _ _ _ _ _ _ _ _ _ _ _ _ _ _ r h => by simp [wharflaw19_RateFull.j0] at h, fun _ _ _ _ _ _ _ _ _ _ _ _ _ _ _ _ _ _ _ _ _ _ r h => by simp [wharflaw19_RateFull.l0] at h⟩
 | k + 1 => by
  obtain ⟨ih0, ih1⟩ := wharflaw19_RateFull.mono_l k
  refine ⟨?_, ?_⟩
  ·
   intro y0 y1 y2 y3 y4 y5 y6 y7 y8 y9 y10 y11 y12 y13 y14 y15 y16 y17 y18 y19 y20
   unfold wharflaw19_RateFull.j0
   repeat' first
   | (with_reducible exact ih0 _ _ _ _ _ _ _ _ _ _ _ _ _ _ _ _ _ _ _ _ _)
   | (with_reducible exact ih1 _ _ _ _ _ _ _ _ _ _ _ _ _ _ _ _ _ _ _ _ _ _)
   | (with_reducible exact rate_Check.mono _ _ _ _ _ _ _ _ _)
   | (with_reducible exact rate_Push.mono _ _ _ _ _ _ _ _ _ _ _ _ _ _ _ _ _ _ _ _ _)
   | (with_reducible exact wharflaw19_live.mono _)
   | (with_reducible exact wharflaw19_note.mono _ _ _ _ _ _ _ _ _ _ _ _)
   | (with_reducible exact LeO.refl _)
   | (with_reducible exact LeO.none _)
   | (with_reducible refine LeO.ite ?_ ?_)
   | (with_reducible refine LeO.bind ?_ (fun _ => ?_))
   | exact ih0 _ _ _ _ _ _ _ _ _ _ _ _ _ _ _ _ _ _ _ _ _
   | exact ih1 _ _ _ _ _ _ _ _ _ _ _ _ _ _ _ _ _ _ _ _ _ _
   | exact rate_Check.mono _ _ _ _ _ _ _ _ _
   | exact rate_Push.mono _ _ _ _ _ _ _ _ _ _ _ _ _ _ _ _ _ _ _ _ _
   | exact wharflaw19_live.mono _
   | exact wharflaw19_note.mono _ _ _ _ _ _ _ _ _ _ _ _
   | exact LeO.none _
   | refine LeO.ite ?_ ?_
   | refine LeO.bind ?_ (fun _ => ?_)
  ·
   intro y0 y1 y2 y3 y4 y5 y6 y7 y8 y9 y10 y11 y12 y13 y14 y15 y16 y17 y18 y19 y20 y21
   unfold wharflaw19_RateFull.l0
   repeat' first
   | (with_reducible exact ih0 _ _ _ _ _ _ _ _ _ _ _ _ _ _ _ _ _ _ _ _ _)
   | (with_reducible exact ih1 _ _ _ _ _ _ _ _ _ _ _ _ _ _ _ _ _ _ _ _ _ _)
   | (with_reducible exact rate_Check.mono _ _ _ _ _ _ _ _ _)
   | (with_reducible exact rate_Push.mono _ _ _ _ _ _ _ _ _ _ _ _ _ _ _ _ _ _ _ _ _)
   | (with_reducible exact wharflaw19_live.mono _)
   | (with_reducible exact wharflaw19_note.mono _ _ _ _ _ _ _ _ _ _ _ _)
   | (with_reducible exact LeO.refl _)
   | (with_reducible exact LeO.none _)
   | (with_reducible refine LeO.ite ?_ ?_)
   | (with_reducible refine LeO.bind ?_ (fun _ => ?_))
   | exact ih0 _ _ _ _ _ _ _ _ _ _ _ _ _ _ _ _ _ _ _ _ _
   | exact ih1 _ _ _ _ _ _ _ _ _ _ _ _ _ _ _ _ _ _ _ _ _ _
   | exact rate_Check.mono _ _ _ _ _ _ _ _ _
   | exact rate_Push.mono _ _ _ _ _ _ _ _ _ _ _ _ _ _ _ _ _ _ _ _ _
   | exact wharflaw19_live.mono _
   | exact wharflaw19_note.mono _ _ _ _ _ _ _ _ _ _ _ _
   | exact LeO.none _
   | refine LeO.ite ?_ ?_
   | refine LeO.bind ?_ (fun _ => ?_)
theorem wharflaw19_RateFull.mono : ∀ a0 a1 a2 a3 a4 a5 a6 a7 a8 a9 a10 a11 a12 a13 a14 a15 a16 a17 a18 a19 k, LeO (wharflaw19_RateFull.f k a0 a1 a2 a3 a4 a5 a6 a7 a8 a9 a10 a11 a12 a13 a14 a15 a16 a17 a18 a19) (wharflaw19_RateFull.f (k + 1) a0 a1 a2 a3 a4 a5 a6 a7 a8 a9 a10 a11 a12 a13 a14 a15 a16 a17 a18 a19) := by
 intro a0 a1 a2 a3 a4 a5 a6 a7 a8 a9 a10 a11 a12 a13 a14 a15 a16 a17 a18 a19 k
 obtain ⟨ih0, ih1⟩ := wharflaw19_RateFull.mono_l k
 unfold wharflaw19_RateFull.f
 repeat' first
   | (with_reducible exact ih0 _ _ _ _ _ _ _ _ _ _ _ _ _ _ _ _ _ _ _ _ _)
   | (with_reducible exact ih1 _ _ _ _ _ _ _ _ _ _ _ _ _ _ _ _ _ _ _ _ _ _)
   | (with_reducible exact rate_Check.mono _ _ _ _ _ _ _ _ _)
   | (with_reducible exact rate_Push.mono _ _ _ _ _ _ _ _ _ _ _ _ _ _ _ _ _ _ _ _ _)
   | (with_reducible exact wharflaw19_live.mono _)
   | (with_reducible exact wharflaw19_note.mono _ _ _ _ _ _ _ _ _ _ _ _)
   | (with_reducible exact LeO.refl _)
   | (with_reducible exact LeO.none _)
   | (with_reducible refine LeO.ite ?_ ?_)
   | (with_reducible refine LeO.bind ?_ (fun _ => ?_))
   | exact ih0 _ _ _ _ _ _ _ _ _ _ _ _ _ _ _ _ _ _ _ _ _
   | exact ih1 _ _ _ _ _ _ _ _ _ _ _ _ _ _ _ _ _ _ _ _ _ _
   | exact rate_Check.mono _ _ _ _ _ _ _ _ _
   | exact rate_Push.mono _ _ _ _ _ _ _ _ _ _ _ _ _ _ _ _ _ _ _ _ _
   | exact wharflaw19_live.mono _
   | exact wharflaw19_note.mono _ _ _ _ _ _ _ _ _ _ _ _
   | exact LeO.none _
   | refine LeO.ite ?_ ?_
   | refine LeO.bind ?_ (fun _ => ?_)
set_option maxHeartbeats 8000000 in
set_option maxRecDepth 100000 in
theorem wharflaw19_RateFull.callsT (k : Nat) (a0_0 : Int) (a0_1 : Int) (a0_2 : Int) (a0_3 : Int) (a0_4 : Int) (a0_5 : Int) (a0_6 : Int) (a0_7 : Int) (a1_0 : Int) (a1_1 : ByteArray) (a1_2 : ByteArray) (a1_3 : ByteArray) (a1_4 : Int) (a1_5 : Int) (a1_6 : Int) (a1_7 : Int) (a1_8 : Bool) (A1_9 : Option Addr) (c1_9 : Nat) (l1_9 : List (S69)) (A1_10 : Option Addr) (c1_10 : Nat) (l1_10 : List Int) (a2 : Int) (r : Bool) (w : World) (hr1_9 : Kd.C k69 w A1_9 l1_9.length l1_9) (hc1_9 : l1_9.length ≤ c1_9) (hr1_10 : Kd.C (Kd.int .i64) w A1_10 l1_10.length l1_10) (hc1_10 : l1_10.length ≤ c1_10) (HT_ : Aside0 (r = true)) (h : wharflaw19_RateFull.f k a0_0 a0_1 a0_2 a0_3 a0_4 a0_5 a0_6 a0_7 a1_0 a1_1 a1_2 a1_3 a1_4 a1_5 a1_6 a1_7 a1_8 l1_9 l1_10 a2 = some r) :
  Calls Try.prog 8 #[.agg #[.int .i64 a0_0, .int .i64 a0_1, .int .i64 a0_2, .int .i64 a0_3, .int .i64 a0_4, .int .i64 a0_5, .int .i64 a0_6, .int .i64 a0_7], .agg #[.int .i64 a1_0, .string a1_1, .string a1_2, .string a1_3, .int .i64 a1_4, .int .i64 a1_5, .int .i64 a1_6, .int .i64 a1_7, .bool a1_8, .slice A1_9 l1_9.length c1_9, .slice A1_10 l1_10.length c1_10], .int .i64 a2] w fun e w' => e = .returned (.bool r) ∧ Below w.heap.size w w' := by
 have hu23 := Try.underlying23
 have hu41 := Try.underlying41
 have hu36 := Try.underlying36
 have HR1_9 := Aside0.mk hr1_9
 have HC1_9 := Aside0.mk hc1_9
 clear hr1_9 hc1_9
 have HR1_10 := Aside0.mk hr1_10
 have HC1_10 := Aside0.mk hc1_10
 clear hr1_10 hc1_10
 have HB := Aside0.mk (Below.refl w.heap.size w)
 have H : ((rate_Check.f k a0_0 a0_1 a0_2 a0_3 a0_4 a0_5 a0_6 a0_7).bind fun t557 => ((wharflaw19_num.f t557).bind fun t558 => (if t558 = 0 then ((wharflaw19_note.f k a1_0 a1_1 a1_2 a1_3 a1_4 a1_5 a1_6 a1_7 a1_8 l1_9 l1_10).bind fun t559 => (if t559 > 2000 then (wharflaw19_RateFull.j0 k a2 true a0_0 a0_1 a0_2 a0_3 a0_4 a0_5 a0_6 a0_7 a1_0 a1_1 a1_2 a1_3 a1_4 a1_5 a1_6 a1_7 a1_8 l1_9 l1_10) else (if a1_0 = 11 then (wharflaw19_RateFull.j0 k a2 true a0_0 a0_1 a0_2 a0_3 a0_4 a0_5 a0_6 a0_7 a1_0 a1_1 a1_2 a1_3 a1_4 a1_5 a1_6 a1_7 a1_8 l1_9 l1_10) else (if a1_0 = 12 then (wharflaw19_RateFull.j0 k a2 true a0_0 a0_1 a0_2 a0_3 a0_4 a0_5 a0_6 a0_7 a1_0 a1_1 a1_2 a1_3 a1_4 a1_5 a1_6 a1_7 a1_8 l1_9 l1_10) else (if a2 < 0 then (wharflaw19_RateFull.j0 k a2 true a0_0 a0_1 a0_2 a0_3 a0_4 a0_5 a0_6 a0_7 a1_0 a1_1 a1_2 a1_3 a1_4 a1_5 a1_6 a1_7 a1_8 l1_9 l1_10) else (wharflaw19_RateFull.j0 k a2 (decide (a2 > 65535)) a0_0 a0_1 a0_2 a0_3 a0_4 a0_5 a0_6 a0_7 a1_0 a1_1 a1_2 a1_3 a1_4 a1_5 a1_6 a1_7 a1_8 l1_9 l1_10)))))) else (wharflaw19_RateFull.j0 k a2 true a0_0 a0_1 a0_2 a0_3 a0_4 a0_5 a0_6 a0_7 a1_0 a1_1 a1_2 a1_3 a1_4 a1_5 a1_6 a1_7 a1_8 l1_9 l1_10)))) = some r := h
 clear h
 have HC4 := Aside0.mk H
 clear H
 go_enter Try.func8, Try.ntmps8
 go_upto_region 1 with (first | ((with_reducible refine gate_dst (N := 3) rfl ?_); (try (refine gate_guard (by rfl) ?_; dsimp only)); refine box_event ?hg (N := 3) ?hd (cs := #[.int .i64 a0_0, .int .i64 a0_1, .int .i64 a0_2, .int .i64 a0_3, .int .i64 a0_4, .int .i64 a0_5, .int .i64 a0_6, .int .i64 a0_7]) (t := 23) ?hr ?_; (case hd => rfl); (case hg => rfl); (case hr => first | (go_simp; done) | (go_simp; rfl)); intro gb555 hg w5 hbox hb; have n0_ := Aside0.mk (below_step (by repeat (first | (with_reducible first | exact HB.out | apply below_alloc | apply pw_below_drewN | apply below_drew1) | exact HB.out)) hb); have n1_ := Aside0.mk (hbox); have n2_ := Aside0.mk ((by rw [hg]; exact (below_size (by repeat (first | (with_reducible first | exact HB.out | apply below_alloc | apply pw_below_drewN | apply below_drew1) | exact HB.out))) : w.heap.size ≤ gb555)); have n3_ := Aside0.mk ((by rw [hg]; exact (below_size (by repeat (first | (with_reducible first | exact HB.out | apply below_alloc | apply pw_below_drewN | apply below_drew1) | exact HB.out))) : w.heap.size ≤ gb555)); clear HB; have HB := n0_; have BK555 := n1_; have GW555 := n2_; have GE555 := n3_; clear n0_ n1_ n2_ n3_; clear hb hbox hg) | ((with_reducible refine gate_dst (N := 4) rfl ?_); (try (refine gate_guard (by rfl) ?_; dsimp only)); refine box_event ?hg (N := 4) ?hd (cs := #[.int .i64 a1_0, .string a1_1, .string a1_2, .string a1_3, .int .i64 a1_4, .int .i64 a1_5, .int .i64 a1_6, .int .i64 a1_7, .bool a1_8, .slice A1_9 l1_9.length c1_9, .slice A1_10 l1_10.length c1_10]) (t := 41) ?hr ?_; (case hd => rfl); (case hg => rfl); (case hr => first | (go_simp; done) | (go_simp; rfl)); intro gb556 hg w6 hbox hb; have n0_ := Aside0.mk (blk_below (g := gb555) (o := .cells #[.int .i64 a0_0, .int .i64 a0_1, .int .i64 a0_2, .int .i64 a0_3, .int .i64 a0_4, .int .i64 a0_5, .int .i64 a0_6, .int .i64 a0_7] 23 (0, 0)) (by (with_reducible repeat (first | refine blk_drewN ?_ _ | refine blk_drew ?_ | refine blk_alloc ?_ _)); exact BK555.out) hb); have n1_ := Aside0.mk (below_step (by repeat (first | (with_reducible first | exact HB.out | apply below_alloc | apply pw_below_drewN | apply below_drew1 | refine below_set ?_ GE555.out) | exact HB.out)) hb); have n2_ := Aside0.mk (hbox); have n3_ := Aside0.mk ((by rw [hg]; exact (below_size (by repeat (first | (with_reducible first | exact HB.out | apply below_alloc | apply pw_below_drewN | apply below_drew1 | refine below_set ?_ GE555.out) | exact HB.out))) : w.heap.size ≤ gb556)); have n4_ := Aside0.mk ((by rw [hg]; exact (below_size (by repeat (first | (with_reducible first | exact HB.out | apply below_alloc | apply pw_below_drewN | apply below_drew1 | refine below_set ?_ GE555.out) | exact HB.out))) : w.heap.size ≤ gb556)); have n5_ := Aside0.mk ((by rw [hg]; exact Nat.ne_of_lt (blk_lt (g := gb555) (o := .cells #[.int .i64 a0_0, .int .i64 a0_1, .int .i64 a0_2, .int .i64 a0_3, .int .i64 a0_4, .int .i64 a0_5, .int .i64 a0_6, .int .i64 a0_7] 23 (0, 0)) (by (with_reducible repeat (first | refine blk_drewN ?_ _ | refine blk_drew ?_ | refine blk_alloc ?_ _)); exact BK555.out)) : gb555 ≠ gb556)); have n6_ := Aside0.mk ((by rw [hg]; exact Nat.ne_of_gt (blk_lt (g := gb555) (o := .cells #[.int .i64 a0_0, .int .i64 a0_1, .int .i64 a0_2, .int .i64 a0_3, .int .i64 a0_4, .int .i64 a0_5, .int .i64 a0_6, .int .i64 a0_7] 23 (0, 0)) (by (with_reducible repeat (first | refine blk_drewN ?_ _ | refine blk_drew ?_ | refine blk_alloc ?_ _)); exact BK555.out)) : gb556 ≠ gb555)); clear BK555; clear HB; have BK555 := n0_; have HB := n1_; have BK556 := n2_; have GW556 := n3_; have GE556 := n4_; have NB555_556 := n5_; have NB556_555 := n6_; clear n0_ n1_ n2_ n3_ n4_ n5_ n6_; clear hb hbox hg))
 (try simp only [Act.put, List.setIfInBounds_toArray, List.set_cons_zero, List.set_cons_succ])
 go_cut [42] (fun v42 wc => ∃ (kq : Nat) (x42_3 : Bool), v42 = .bool x42_3 ∧ Aside0 (wharflaw19_RateFull.j0 kq a2 x42_3 a0_0 a0_1 a0_2 a0_3 a0_4 a0_5 a0_6 a0_7 a1_0 a1_1 a1_2 a1_3 a1_4 a1_5 a1_6 a1_7 a1_8 l1_9 l1_10 = some r) ∧ Aside0 (kq ≤ k) ∧ Aside0 (wc.heap[gb555]? = some (.cells #[.int .i64 a0_0, .int .i64 a0_1, .int .i64 a0_2, .int .i64 a0_3, .int .i64 a0_4, .int .i64 a0_5, .int .i64 a0_6, .int .i64 a0_7] 23 (0, 0))) ∧ Aside0 (wc.heap[gb556]? = some (.cells #[.int .i64 a1_0, .string a1_1, .string a1_2, .string a1_3, .int .i64 a1_4, .int .i64 a1_5, .int .i64 a1_6, .int .i64 a1_7, .bool a1_8, (.slice A1_9 l1_9.length c1_9), (.slice A1_10 l1_10.length c1_10)] 41 (0, 0))) ∧ Aside0 (Below w.heap.size w wc))
 case first =>
  have H := HC4.out
  clear HC4
  replace H := Option.bind_eq_some_iff.mp H
  obtain ⟨t557, A70, H⟩ := H
  replace H : ((wharflaw19_num.f t557).bind fun t558 => (if t558 = 0 then ((wharflaw19_note.f k a1_0 a1_1 a1_2 a1_3 a1_4 a1_5 a1_6 a1_7 a1_8 l1_9 l1_10).bind fun t559 => (if t559 > 2000 then (wharflaw19_RateFull.j0 k a2 true a0_0 a0_1 a0_2 a0_3 a0_4 a0_5 a0_6 a0_7 a1_0 a1_1 a1_2 a1_3 a1_4 a1_5 a1_6 a1_7 a1_8 l1_9 l1_10) else (if a1_0 = 11 then (wharflaw19_RateFull.j0 k a2 true a0_0 a0_1 a0_2 a0_3 a0_4 a0_5 a0_6 a0_7 a1_0 a1_1 a1_2 a1_3 a1_4 a1_5 a1_6 a1_7 a1_8 l1_9 l1_10) else (if a1_0 = 12 then (wharflaw19_RateFull.j0 k a2 true a0_0 a0_1 a0_2 a0_3 a0_4 a0_5 a0_6 a0_7 a1_0 a1_1 a1_2 a1_3 a1_4 a1_5 a1_6 a1_7 a1_8 l1_9 l1_10) else (if a2 < 0 then (wharflaw19_RateFull.j0 k a2 true a0_0 a0_1 a0_2 a0_3 a0_4 a0_5 a0_6 a0_7 a1_0 a1_1 a1_2 a1_3 a1_4 a1_5 a1_6 a1_7 a1_8 l1_9 l1_10) else (wharflaw19_RateFull.j0 k a2 (decide (a2 > 65535)) a0_0 a0_1 a0_2 a0_3 a0_4 a0_5 a0_6 a0_7 a1_0 a1_1 a1_2 a1_3 a1_4 a1_5 a1_6 a1_7 a1_8 l1_9 l1_10)))))) else (wharflaw19_RateFull.j0 k a2 true a0_0 a0_1 a0_2 a0_3 a0_4 a0_5 a0_6 a0_7 a1_0 a1_1 a1_2 a1_3 a1_4 a1_5 a1_6 a1_7 a1_8 l1_9 l1_10))) = some r := H
  have A7 := Aside0.mk A70
  clear A70
  replace H := Option.bind_eq_some_iff.mp H
  obtain ⟨t558, A80, H⟩ := H
  replace H : (if t558 = 0 then ((wharflaw19_note.f k a1_0 a1_1 a1_2 a1_3 a1_4 a1_5 a1_6 a1_7 a1_8 l1_9 l1_10).bind fun t559 => (if t559 > 2000 then (wharflaw19_RateFull.j0 k a2 true a0_0 a0_1 a0_2 a0_3 a0_4 a0_5 a0_6 a0_7 a1_0 a1_1 a1_2 a1_3 a1_4 a1_5 a1_6 a1_7 a1_8 l1_9 l1_10) else (if a1_0 = 11 then (wharflaw19_RateFull.j0 k a2 true a0_0 a0_1 a0_2 a0_3 a0_4 a0_5 a0_6 a0_7 a1_0 a1_1 a1_2 a1_3 a1_4 a1_5 a1_6 a1_7 a1_8 l1_9 l1_10) else (if a1_0 = 12 then (wharflaw19_RateFull.j0 k a2 true a0_0 a0_1 a0_2 a0_3 a0_4 a0_5 a0_6 a0_7 a1_0 a1_1 a1_2 a1_3 a1_4 a1_5 a1_6 a1_7 a1_8 l1_9 l1_10) else (if a2 < 0 then (wharflaw19_RateFull.j0 k a2 true a0_0 a0_1 a0_2 a0_3 a0_4 a0_5 a0_6 a0_7 a1_0 a1_1 a1_2 a1_3 a1_4 a1_5 a1_6 a1_7 a1_8 l1_9 l1_10) else (wharflaw19_RateFull.j0 k a2 (decide (a2 > 65535)) a0_0 a0_1 a0_2 a0_3 a0_4 a0_5 a0_6 a0_7 a1_0 a1_1 a1_2 a1_3 a1_4 a1_5 a1_6 a1_7 a1_8 l1_9 l1_10)))))) else (wharflaw19_RateFull.j0 k a2 true a0_0 a0_1 a0_2 a0_3 a0_4 a0_5 a0_6 a0_7 a1_0 a1_1 a1_2 a1_3 a1_4 a1_5 a1_6 a1_7 a1_8 l1_9 l1_10)) = some r := H
  have A8 := Aside0.mk A80
  clear A80
  by_cases c9 : t558 = 0
  ·
   rw [if_pos c9] at H
   have c9b0 : (t558 == 0) = true := beq_iff_eq.mpr c9
   have c9b1 : (t558 != 0) = false := bne_eq_false_iff_eq.mpr c9
   clear c9
   (first | rw [c9b0] | (simp only [i64_w, i32_w]; rw [c9b0]) | skip)
   replace H := Option.bind_eq_some_iff.mp H
   obtain ⟨t559, A100, H⟩ := H
   replace H : (if t559 > 2000 then (wharflaw19_RateFull.j0 k a2 true a0_0 a0_1 a0_2 a0_3 a0_4 a0_5 a0_6 a0_7 a1_0 a1_1 a1_2 a1_3 a1_4 a1_5 a1_6 a1_7 a1_8 l1_9 l1_10) else (if a1_0 = 11 then (wharflaw19_RateFull.j0 k a2 true a0_0 a0_1 a0_2 a0_3 a0_4 a0_5 a0_6 a0_7 a1_0 a1_1 a1_2 a1_3 a1_4 a1_5 a1_6 a1_7 a1_8 l1_9 l1_10) else (if a1_0 = 12 then (wharflaw19_RateFull.j0 k a2 true a0_0 a0_1 a0_2 a0_3 a0_4 a0_5 a0_6 a0_7 a1_0 a1_1 a1_2 a1_3 a1_4 a1_5 a1_6 a1_7 a1_8 l1_9 l1_10) else (if a2 < 0 then (wharflaw19_RateFull.j0 k a2 true a0_0 a0_1 a0_2 a0_3 a0_4 a0_5 a0_6 a0_7 a1_0 a1_1 a1_2 a1_3 a1_4 a1_5 a1_6 a1_7 a1_8 l1_9 l1_10) else (wharflaw19_RateFull.j0 k a2 (decide (a2 > 65535)) a0_0 a0_1 a0_2 a0_3 a0_4 a0_5 a0_6 a0_7 a1_0 a1_1 a1_2 a1_3 a1_4 a1_5 a1_6 a1_7 a1_8 l1_9 l1_10))))) = some r := H
   have A10 := Aside0.mk A100
   clear A100
   by_cases c11 : t559 > 2000
   ·
    rw [if_pos c11] at H
    have c11b0 : decide (2000 < t559) = true := decide_eq_true c11
    clear c11
    have H' := Aside0.mk H
    clear H
    have hnb12 := NB555_556.out
    have hnc12 := NB556_555.out
    have hcz13_0 : w6.cell? ⟨gb555, 0, none⟩ = some (.int .i64 a0_0) := (blk_cell BK555.out 0).trans rfl
    have hcz13_1 : w6.cell? ⟨gb555, 1, none⟩ = some (.int .i64 a0_1) := (blk_cell BK555.out 1).trans rfl
    have hcz13_2 : w6.cell? ⟨gb555, 2, none⟩ = some (.int .i64 a0_2) := (blk_cell BK555.out 2).trans rfl
    have hcz13_3 : w6.cell? ⟨gb555, 3, none⟩ = some (.int .i64 a0_3) := (blk_cell BK555.out 3).trans rfl
    have hcz13_4 : w6.cell? ⟨gb555, 4, none⟩ = some (.int .i64 a0_4) := (blk_cell BK555.out 4).trans rfl
    have hcz13_5 : w6.cell? ⟨gb555, 5, none⟩ = some (.int .i64 a0_5) := (blk_cell BK555.out 5).trans rfl
    have hcz13_6 : w6.cell? ⟨gb555, 6, none⟩ = some (.int .i64 a0_6) := (blk_cell BK555.out 6).trans rfl
    have hcz13_7 : w6.cell? ⟨gb555, 7, none⟩ = some (.int .i64 a0_7) := (blk_cell BK555.out 7).trans rfl
    have hfz13_0 := blk_frozen BK555.out 0
    have hfz13_1 := blk_frozen BK555.out 1
    have hfz13_2 := blk_frozen BK555.out 2
    have hfz13_3 := blk_frozen BK555.out 3
    have hfz13_4 := blk_frozen BK555.out 4
    have hfz13_5 := blk_frozen BK555.out 5
    have hfz13_6 := blk_frozen BK555.out 6
    have hfz13_7 := blk_frozen BK555.out 7
    go_wp2_with (first | ((with_reducible refine gate_callee (f := 10) rfl ?_); refine goesL_ (some 17) rfl rfl Try.func10 (by kernel_rfl) rfl #[.agg #[.int .i64 a0_0, .int .i64 a0_1, .int .i64 a0_2, .int .i64 a0_3, .int .i64 a0_4, .int .i64 a0_5, .int .i64 a0_6, .int .i64 a0_7]] rfl (by (try simp only [List.map_toArray, List.map_cons, List.map_nil]); first | done | rfl | (simp only [List.length_drop, List.length_take]; rfl)) ?_; (with_reducible refine (rate_Check.calls k a0_0 a0_1 a0_2 a0_3 a0_4 a0_5 a0_6 a0_7 t557 _ A7.out).mono ?_); rintro e w14 ⟨rfl, hb⟩; refine ⟨_, rfl, ?_⟩; have n0_ := Aside0.mk (blk_below (g := gb555) (o := .cells #[.int .i64 a0_0, .int .i64 a0_1, .int .i64 a0_2, .int .i64 a0_3, .int .i64 a0_4, .int .i64 a0_5, .int .i64 a0_6, .int .i64 a0_7] 23 (0, 0)) (by (with_reducible repeat (first | refine blk_drewN ?_ _ | refine blk_drew ?_ | refine blk_alloc ?_ _)); exact BK555.out) hb); have n1_ := Aside0.mk (blk_below (g := gb556) (o := .cells #[.int .i64 a1_0, .string a1_1, .string a1_2, .string a1_3, .int .i64 a1_4, .int .i64 a1_5, .int .i64 a1_6, .int .i64 a1_7, .bool a1_8, .slice A1_9 l1_9.length c1_9, .slice A1_10 l1_10.length c1_10] 41 (0, 0)) (by (with_reducible repeat (first | refine blk_drewN ?_ _ | refine blk_drew ?_ | refine blk_alloc ?_ _)); exact BK556.out) hb); have n2_ := Aside0.mk (below_step (by repeat (first | (with_reducible first | exact HB.out | apply below_alloc | apply pw_below_drewN | apply below_drew1 | refine below_set ?_ GE555.out | refine below_set ?_ GE556.out) | exact HB.out)) hb); clear BK555; clear BK556; clear HB; have BK555 := n0_; have BK556 := n1_; have HB := n2_; clear n0_ n1_ n2_; (try clear hb); (try clear hb2); (try clear hk); (try clear hi)) | ((with_reducible refine gate_callee (f := 9) rfl ?_); refine goesL_ (some 18) rfl rfl Try.func9 (by kernel_rfl) rfl #[.int .i64 t557] rfl (by (try simp only [List.map_toArray, List.map_cons, List.map_nil]); first | done | rfl | (simp only [List.length_drop, List.length_take]; rfl)) ?_; (with_reducible refine (wharflaw19_num.calls t557 t558 _ A8.out).mono ?_); rintro e w' ⟨rfl, ⟨nd, rfl⟩⟩; refine ⟨_, rfl, ?_⟩; have hcz15_0 : w14.cell? ⟨gb556, 0, none⟩ = some (.int .i64 a1_0) := (blk_cell BK556.out 0).trans rfl; have hcz15_1 : w14.cell? ⟨gb556, 1, none⟩ = some (.string a1_1) := (blk_cell BK556.out 1).trans rfl; have hcz15_2 : w14.cell? ⟨gb556, 2, none⟩ = some (.string a1_2) := (blk_cell BK556.out 2).trans rfl; have hcz15_3 : w14.cell? ⟨gb556, 3, none⟩ = some (.string a1_3) := (blk_cell BK556.out 3).trans rfl; have hcz15_4 : w14.cell? ⟨gb556, 4, none⟩ = some (.int .i64 a1_4) := (blk_cell BK556.out 4).trans rfl; have hcz15_5 : w14.cell? ⟨gb556, 5, none⟩ = some (.int .i64 a1_5) := (blk_cell BK556.out 5).trans rfl; have hcz15_6 : w14.cell? ⟨gb556, 6, none⟩ = some (.int .i64 a1_6) := (blk_cell BK556.out 6).trans rfl; have hcz15_7 : w14.cell? ⟨gb556, 7, none⟩ = some (.int .i64 a1_7) := (blk_cell BK556.out 7).trans rfl; have hcz15_8 : w14.cell? ⟨gb556, 8, none⟩ = some (.bool a1_8) := (blk_cell BK556.out 8).trans rfl; have hcz15_9 : w14.cell? ⟨gb556, 9, none⟩ = some (.slice A1_9 l1_9.length c1_9) := (blk_cell BK556.out 9).trans rfl; have hcz15_10 : w14.cell? ⟨gb556, 10, none⟩ = some (.slice A1_10 l1_10.length c1_10) := (blk_cell BK556.out 10).trans rfl; have hfz15_0 := blk_frozen BK556.out 0; have hfz15_1 := blk_frozen BK556.out 1; have hfz15_2 := blk_frozen BK556.out 2; have hfz15_3 := blk_frozen BK556.out 3; have hfz15_4 := blk_frozen BK556.out 4; have hfz15_5 := blk_frozen BK556.out 5; have hfz15_6 := blk_frozen BK556.out 6; have hfz15_7 := blk_frozen BK556.out 7; have hfz15_8 := blk_frozen BK556.out 8; have hfz15_9 := blk_frozen BK556.out 9; have hfz15_10 := blk_frozen BK556.out 10) | (go_at_call 22; (with_reducible refine (wharflaw19_note.calls k a1_0 a1_1 a1_2 a1_3 a1_4 a1_5 a1_6 a1_7 a1_8 _ _ l1_9 _ _ l1_10 t559 _ ?side1 ?side2 ?side3 ?side4 A10.out).mono ?_); (case side1 => repeat (first | exact (Kd.C_below HR1_9.out (by repeat (first | (with_reducible first | exact HB.out | apply below_alloc | apply pw_below_drewN | apply below_drew1 | refine below_set ?_ GE555.out | refine below_set ?_ GE556.out) | exact HB.out))) | (with_reducible refine Kd.C_alloc ?_ _) | (with_reducible refine Kd.C_drewN ?_ _) | (with_reducible refine Kd.C_drew ?_))); (case side2 => exact HC1_9.out); (case side3 => repeat (first | exact (Kd.C_below HR1_10.out (by repeat (first | (with_reducible first | exact HB.out | apply below_alloc | apply pw_below_drewN | apply below_drew1 | refine below_set ?_ GE555.out | refine below_set ?_ GE556.out) | exact HB.out))) | (with_reducible refine Kd.C_alloc ?_ _) | (with_reducible refine Kd.C_drewN ?_ _) | (with_reducible refine Kd.C_drew ?_))); (case side4 => exact HC1_10.out); rintro e w16 ⟨rfl, hb⟩; have n0_ := Aside0.mk (blk_below (g := gb555) (o := .cells #[.int .i64 a0_0, .int .i64 a0_1, .int .i64 a0_2, .int .i64 a0_3, .int .i64 a0_4, .int .i64 a0_5, .int .i64 a0_6, .int .i64 a0_7] 23 (0, 0)) (by (with_reducible repeat (first | refine blk_drewN ?_ _ | refine blk_drew ?_ | refine blk_alloc ?_ _)); exact BK555.out) hb); have n1_ := Aside0.mk (blk_below (g := gb556) (o := .cells #[.int .i64 a1_0, .string a1_1, .string a1_2, .string a1_3, .int .i64 a1_4, .int .i64 a1_5, .int .i64 a1_6, .int .i64 a1_7, .bool a1_8, .slice A1_9 l1_9.length c1_9, .slice A1_10 l1_10.length c1_10] 41 (0, 0)) (by (with_reducible repeat (first | refine blk_drewN ?_ _ | refine blk_drew ?_ | refine blk_alloc ?_ _)); exact BK556.out) hb); have n2_ := Aside0.mk (below_step (by repeat (first | (with_reducible first | exact HB.out | apply below_alloc | apply pw_below_drewN | apply below_drew1 | refine below_set ?_ GE555.out | refine below_set ?_ GE556.out) | exact HB.out)) hb); clear BK555; clear BK556; clear HB; have BK555 := n0_; have BK556 := n1_; have HB := n2_; clear n0_ n1_ n2_; (try clear hb); (try clear hb2); (try clear hk); (try clear hi)))
    go_meet
    case rel => exact ⟨_, (true), (by first | rfl | (simp; done) | (simp [*]; done)), H', ⟨by first | omega | exact Nat.le_refl _⟩, ⟨by (with_reducible repeat (first | refine blk_drewN ?_ _ | refine blk_drew ?_ | refine blk_alloc ?_ _)); exact BK555.out⟩, ⟨by (with_reducible repeat (first | refine blk_drewN ?_ _ | refine blk_drew ?_ | refine blk_alloc ?_ _)); exact BK556.out⟩, ⟨by repeat (first | (with_reducible first | exact HB.out | apply below_alloc | apply pw_below_drewN | apply below_drew1 | refine below_set ?_ GE555.out | refine below_set ?_ GE556.out) | exact HB.out)⟩⟩
   ·
    rw [if_neg c11] at H
    have c11b0 : decide (2000 < t559) = false := decide_eq_false c11
    clear c11
    by_cases c17 : a1_0 = 11
    ·
     rw [if_pos c17] at H
     have c17b0 : (a1_0 == 11) = true := beq_iff_eq.mpr c17
     have c17b1 : (a1_0 != 11) = false := bne_eq_false_iff_eq.mpr c17
     clear c17
     have H' := Aside0.mk H
     clear H
     have hnb18 := NB555_556.out
     have hnc18 := NB556_555.out
     have hcz19_0 : w6.cell? ⟨gb555, 0, none⟩ = some (.int .i64 a0_0) := (blk_cell BK555.out 0).trans rfl
     have hcz19_1 : w6.cell? ⟨gb555, 1, none⟩ = some (.int .i64 a0_1) := (blk_cell BK555.out 1).trans rfl
     have hcz19_2 : w6.cell? ⟨gb555, 2, none⟩ = some (.int .i64 a0_2) := (blk_cell BK555.out 2).trans rfl
     have hcz19_3 : w6.cell? ⟨gb555, 3, none⟩ = some (.int .i64 a0_3) := (blk_cell BK555.out 3).trans rfl
     have hcz19_4 : w6.cell? ⟨gb555, 4, none⟩ = some (.int .i64 a0_4) := (blk_cell BK555.out 4).trans rfl
     have hcz19_5 : w6.cell? ⟨gb555, 5, none⟩ = some (.int .i64 a0_5) := (blk_cell BK555.out 5).trans rfl
     have hcz19_6 : w6.cell? ⟨gb555, 6, none⟩ = some (.int .i64 a0_6) := (blk_cell BK555.out 6).trans rfl
     have hcz19_7 : w6.cell? ⟨gb555, 7, none⟩ = some (.int .i64 a0_7) := (blk_cell BK555.out 7).trans rfl
     have hfz19_0 := blk_frozen BK555.out 0
     have hfz19_1 := blk_frozen BK555.out 1
     have hfz19_2 := blk_frozen BK555.out 2
     have hfz19_3 := blk_frozen BK555.out 3
     have hfz19_4 := blk_frozen BK555.out 4
     have hfz19_5 := blk_frozen BK555.out 5
     have hfz19_6 := blk_frozen BK555.out 6
     have hfz19_7 := blk_frozen BK555.out 7
     go_wp2_with (first | ((with_reducible refine gate_callee (f := 10) rfl ?_); refine goesL_ (some 17) rfl rfl Try.func10 (by kernel_rfl) rfl #[.agg #[.int .i64 a0_0, .int .i64 a0_1, .int .i64 a0_2, .int .i64 a0_3, .int .i64 a0_4, .int .i64 a0_5, .int .i64 a0_6, .int .i64 a0_7]] rfl (by (try simp only [List.map_toArray, List.map_cons, List.map_nil]); first | done | rfl | (simp only [List.length_drop, List.length_take]; rfl)) ?_; (with_reducible refine (rate_Check.calls k a0_0 a0_1 a0_2 a0_3 a0_4 a0_5 a0_6 a0_7 t557 _ A7.out).mono ?_); rintro e w20 ⟨rfl, hb⟩; refine ⟨_, rfl, ?_⟩; have n0_ := Aside0.mk (blk_below (g := gb555) (o := .cells #[.int .i64 a0_0, .int .i64 a0_1, .int .i64 a0_2, .int .i64 a0_3, .int .i64 a0_4, .int .i64 a0_5, .int .i64 a0_6, .int .i64 a0_7] 23 (0, 0)) (by (with_reducible repeat (first | refine blk_drewN ?_ _ | refine blk_drew ?_ | refine blk_alloc ?_ _)); exact BK555.out) hb); have n1_ := Aside0.mk (blk_below (g := gb556) (o := .cells #[.int .i64 a1_0, .string a1_1, .string a1_2, .string a1_3, .int .i64 a1_4, .int .i64 a1_5, .int .i64 a1_6, .int .i64 a1_7, .bool a1_8, .slice A1_9 l1_9.length c1_9, .slice A1_10 l1_10.length c1_10] 41 (0, 0)) (by (with_reducible repeat (first | refine blk_drewN ?_ _ | refine blk_drew ?_ | refine blk_alloc ?_ _)); exact BK556.out) hb); have n2_ := Aside0.mk (below_step (by repeat (first | (with_reducible first | exact HB.out | apply below_alloc | apply pw_below_drewN | apply below_drew1 | refine below_set ?_ GE555.out | refine below_set ?_ GE556.out) | exact HB.out)) hb); clear BK555; clear BK556; clear HB; have BK555 := n0_; have BK556 := n1_; have HB := n2_; clear n0_ n1_ n2_; (try clear hb); (try clear hb2); (try clear hk); (try clear hi)) | ((with_reducible refine gate_callee (f := 9) rfl ?_); refine goesL_ (some 18) rfl rfl Try.func9 (by kernel_rfl) rfl #[.int .i64 t557] rfl (by (try simp only [List.map_toArray, List.map_cons, List.map_nil]); first | done | rfl | (simp only [List.length_drop, List.length_take]; rfl)) ?_; (with_reducible refine (wharflaw19_num.calls t557 t558 _ A8.out).mono ?_); rintro e w' ⟨rfl, ⟨nd, rfl⟩⟩; refine ⟨_, rfl, ?_⟩; have hcz21_0 : w20.cell? ⟨gb556, 0, none⟩ = some (.int .i64 a1_0) := (blk_cell BK556.out 0).trans rfl; have hcz21_1 : w20.cell? ⟨gb556, 1, none⟩ = some (.string a1_1) := (blk_cell BK556.out 1).trans rfl; have hcz21_2 : w20.cell? ⟨gb556, 2, none⟩ = some (.string a1_2) := (blk_cell BK556.out 2).trans rfl; have hcz21_3 : w20.cell? ⟨gb556, 3, none⟩ = some (.string a1_3) := (blk_cell BK556.out 3).trans rfl; have hcz21_4 : w20.cell? ⟨gb556, 4, none⟩ = some (.int .i64 a1_4) := (blk_cell BK556.out 4).trans rfl; have hcz21_5 : w20.cell? ⟨gb556, 5, none⟩ = some (.int .i64 a1_5) := (blk_cell BK556.out 5).trans rfl; have hcz21_6 : w20.cell? ⟨gb556, 6, none⟩ = some (.int .i64 a1_6) := (blk_cell BK556.out 6).trans rfl; have hcz21_7 : w20.cell? ⟨gb556, 7, none⟩ = some (.int .i64 a1_7) := (blk_cell BK556.out 7).trans rfl; have hcz21_8 : w20.cell? ⟨gb556, 8, none⟩ = some (.bool a1_8) := (blk_cell BK556.out 8).trans rfl; have hcz21_9 : w20.cell? ⟨gb556, 9, none⟩ = some (.slice A1_9 l1_9.length c1_9) := (blk_cell BK556.out 9).trans rfl; have hcz21_10 : w20.cell? ⟨gb556, 10, none⟩ = some (.slice A1_10 l1_10.length c1_10) := (blk_cell BK556.out 10).trans rfl; have hfz21_0 := blk_frozen BK556.out 0; have hfz21_1 := blk_frozen BK556.out 1; have hfz21_2 := blk_frozen BK556.out 2; have hfz21_3 := blk_frozen BK556.out 3; have hfz21_4 := blk_frozen BK556.out 4; have hfz21_5 := blk_frozen BK556.out 5; have hfz21_6 := blk_frozen BK556.out 6; have hfz21_7 := blk_frozen BK556.out 7; have hfz21_8 := blk_frozen BK556.out 8; have hfz21_9 := blk_frozen BK556.out 9; have hfz21_10 := blk_frozen BK556.out 10) | (go_at_call 22; (with_reducible refine (wharflaw19_note.calls k a1_0 a1_1 a1_2 a1_3 a1_4 a1_5 a1_6 a1_7 a1_8 _ _ l1_9 _ _ l1_10 t559 _ ?side1 ?side2 ?side3 ?side4 A10.out).mono ?_); (case side1 => repeat (first | exact (Kd.C_below HR1_9.out (by repeat (first | (with_reducible first | exact HB.out | apply below_alloc | apply pw_below_drewN | apply below_drew1 | refine below_set ?_ GE555.out | refine below_set ?_ GE556.out) | exact HB.out))) | (with_reducible refine Kd.C_alloc ?_ _) | (with_reducible refine Kd.C_drewN ?_ _) | (with_reducible refine Kd.C_drew ?_))); (case side2 => exact HC1_9.out); (case side3 => repeat (first | exact (Kd.C_below HR1_10.out (by repeat (first | (with_reducible first | exact HB.out | apply below_alloc | apply pw_below_drewN | apply below_drew1 | refine below_set ?_ GE555.out | refine below_set ?_ GE556.out) | exact HB.out))) | (with_reducible refine Kd.C_alloc ?_ _) | (with_reducible refine Kd.C_drewN ?_ _) | (with_reducible refine Kd.C_drew ?_))); (case side4 => exact HC1_10.out); rintro e w22 ⟨rfl, hb⟩; have n0_ := Aside0.mk (blk_below (g := gb555) (o := .cells #[.int .i64 a0_0, .int .i64 a0_1, .int .i64 a0_2, .int .i64 a0_3, .int .i64 a0_4, .int .i64 a0_5, .int .i64 a0_6, .int .i64 a0_7] 23 (0, 0)) (by (with_reducible repeat (first | refine blk_drewN ?_ _ | refine blk_drew ?_ | refine blk_alloc ?_ _)); exact BK555.out) hb); have n1_ := Aside0.mk (blk_below (g := gb556) (o := .cells #[.int .i64 a1_0, .string a1_1, .string a1_2, .string a1_3, .int .i64 a1_4, .int .i64 a1_5, .int .i64 a1_6, .int .i64 a1_7, .bool a1_8, .slice A1_9 l1_9.length c1_9, .slice A1_10 l1_10.length c1_10] 41 (0, 0)) (by (with_reducible repeat (first | refine blk_drewN ?_ _ | refine blk_drew ?_ | refine blk_alloc ?_ _)); exact BK556.out) hb); have n2_ := Aside0.mk (below_step (by repeat (first | (with_reducible first | exact HB.out | apply below_alloc | apply pw_below_drewN | apply below_drew1 | refine below_set ?_ GE555.out | refine below_set ?_ GE556.out) | exact HB.out)) hb); clear BK555; clear BK556; clear HB; have BK555 := n0_; have BK556 := n1_; have HB := n2_; clear n0_ n1_ n2_; (try clear hb); (try clear hb2); (try clear hk); (try clear hi); have hcz23_0 : w22.cell? ⟨gb556, 0, none⟩ = some (.int .i64 a1_0) := (blk_cell BK556.out 0).trans rfl; have hcz23_1 : w22.cell? ⟨gb556, 1, none⟩ = some (.string a1_1) := (blk_cell BK556.out 1).trans rfl; have hcz23_2 : w22.cell? ⟨gb556, 2, none⟩ = some (.string a1_2) := (blk_cell BK556.out 2).trans rfl; have hcz23_3 : w22.cell? ⟨gb556, 3, none⟩ = some (.string a1_3) := (blk_cell BK556.out 3).trans rfl; have hcz23_4 : w22.cell? ⟨gb556, 4, none⟩ = some (.int .i64 a1_4) := (blk_cell BK556.out 4).trans rfl; have hcz23_5 : w22.cell? ⟨gb556, 5, none⟩ = some (.int .i64 a1_5) := (blk_cell BK556.out 5).trans rfl; have hcz23_6 : w22.cell? ⟨gb556, 6, none⟩ = some (.int .i64 a1_6) := (blk_cell BK556.out 6).trans rfl; have hcz23_7 : w22.cell? ⟨gb556, 7, none⟩ = some (.int .i64 a1_7) := (blk_cell BK556.out 7).trans rfl; have hcz23_8 : w22.cell? ⟨gb556, 8, none⟩ = some (.bool a1_8) := (blk_cell BK556.out 8).trans rfl; have hcz23_9 : w22.cell? ⟨gb556, 9, none⟩ = some (.slice A1_9 l1_9.length c1_9) := (blk_cell BK556.out 9).trans rfl; have hcz23_10 : w22.cell? ⟨gb556, 10, none⟩ = some (.slice A1_10 l1_10.length c1_10) := (blk_cell BK556.out 10).trans rfl; have hfz23_0 := blk_frozen BK556.out 0; have hfz23_1 := blk_frozen BK556.out 1; have hfz23_2 := blk_frozen BK556.out 2; have hfz23_3 := blk_frozen BK556.out 3; have hfz23_4 := blk_frozen BK556.out 4; have hfz23_5 := blk_frozen BK556.out 5; have hfz23_6 := blk_frozen BK556.out 6; have hfz23_7 := blk_frozen BK556.out 7; have hfz23_8 := blk_frozen BK556.out 8; have hfz23_9 := blk_frozen BK556.out 9; have hfz23_10 := blk_frozen BK556.out 10))
     go_meet
     case rel => exact ⟨_, (true), (by first | rfl | (simp; done) | (simp [*]; done)), H', ⟨by first | omega | exact Nat.le_refl _⟩, ⟨by (with_reducible repeat (first | refine blk_drewN ?_ _ | refine blk_drew ?_ | refine blk_alloc ?_ _)); exact BK555.out⟩, ⟨by (with_reducible repeat (first | refine blk_drewN ?_ _ | refine blk_drew ?_ | refine blk_alloc ?_ _)); exact BK556.out⟩, ⟨by repeat (first | (with_reducible first | exact HB.out | apply below_alloc | apply pw_below_drewN | apply below_drew1 | refine below_set ?_ GE555.out | refine below_set ?_ GE556.out) | exact HB.out)⟩⟩
    ·
     rw [if_neg c17] at H
     have c17b0 : (a1_0 == 11) = false := beq_eq_false_iff_ne.mpr c17
     have c17b1 : (a1_0 != 11) = true := bne_iff_ne.mpr c17
     by_cases c24 : a1_0 = 12
     ·
      rw [if_pos c24] at H
      have c24b0 : (a1_0 == 12) = true := beq_iff_eq.mpr c24
      have c24b1 : (a1_0 != 12) = false := bne_eq_false_iff_eq.mpr c24
      clear c24
      have H' := Aside0.mk H
      clear H
      have hnb25 := NB555_556.out
      have hnc25 := NB556_555.out
      have hcz26_0 : w6.cell? ⟨gb555, 0, none⟩ = some (.int .i64 a0_0) := (blk_cell BK555.out 0).trans rfl
      have hcz26_1 : w6.cell? ⟨gb555, 1, none⟩ = some (.int .i64 a0_1) := (blk_cell BK555.out 1).trans rfl
      have hcz26_2 : w6.cell? ⟨gb555, 2, none⟩ = some (.int .i64 a0_2) := (blk_cell BK555.out 2).trans rfl
      have hcz26_3 : w6.cell? ⟨gb555, 3, none⟩ = some (.int .i64 a0_3) := (blk_cell BK555.out 3).trans rfl
      have hcz26_4 : w6.cell? ⟨gb555, 4, none⟩ = some (.int .i64 a0_4) := (blk_cell BK555.out 4).trans rfl
      have hcz26_5 : w6.cell? ⟨gb555, 5, none⟩ = some (.int .i64 a0_5) := (blk_cell BK555.out 5).trans rfl
      have hcz26_6 : w6.cell? ⟨gb555, 6, none⟩ = some (.int .i64 a0_6) := (blk_cell BK555.out 6).trans rfl
      have hcz26_7 : w6.cell? ⟨gb555, 7, none⟩ = some (.int .i64 a0_7) := (blk_cell BK555.out 7).trans rfl
      have hfz26_0 := blk_frozen BK555.out 0
      have hfz26_1 := blk_frozen BK555.out 1
      have hfz26_2 := blk_frozen BK555.out 2
      have hfz26_3 := blk_frozen BK555.out 3
      have hfz26_4 := blk_frozen BK555.out 4
      have hfz26_5 := blk_frozen BK555.out 5
      have hfz26_6 := blk_frozen BK555.out 6
      have hfz26_7 := blk_frozen BK555.out 7
      go_wp2_with (first | ((with_reducible refine gate_callee (f := 10) rfl ?_); refine goesL_ (some 17) rfl rfl Try.func10 (by kernel_rfl) rfl #[.agg #[.int .i64 a0_0, .int .i64 a0_1, .int .i64 a0_2, .int .i64 a0_3, .int .i64 a0_4, .int .i64 a0_5, .int .i64 a0_6, .int .i64 a0_7]] rfl (by (try simp only [List.map_toArray, List.map_cons, List.map_nil]); first | done | rfl | (simp only [List.length_drop, List.length_take]; rfl)) ?_; (with_reducible refine (rate_Check.calls k a0_0 a0_1 a0_2 a0_3 a0_4 a0_5 a0_6 a0_7 t557 _ A7.out).mono ?_); rintro e w27 ⟨rfl, hb⟩; refine ⟨_, rfl, ?_⟩; have n0_ := Aside0.mk (blk_below (g := gb555) (o := .cells #[.int .i64 a0_0, .int .i64 a0_1, .int .i64 a0_2, .int .i64 a0_3, .int .i64 a0_4, .int .i64 a0_5, .int .i64 a0_6, .int .i64 a0_7] 23 (0, 0)) (by (with_reducible repeat (first | refine blk_drewN ?_ _ | refine blk_drew ?_ | refine blk_alloc ?_ _)); exact BK555.out) hb); have n1_ := Aside0.mk (blk_below (g := gb556) (o := .cells #[.int .i64 a1_0, .string a1_1, .string a1_2, .string a1_3, .int .i64 a1_4, .int .i64 a1_5, .int .i64 a1_6, .int .i64 a1_7, .bool a1_8, .slice A1_9 l1_9.length c1_9, .slice A1_10 l1_10.length c1_10] 41 (0, 0)) (by (with_reducible repeat (first | refine blk_drewN ?_ _ | refine blk_drew ?_ | refine blk_alloc ?_ _)); exact BK556.out) hb); have n2_ := Aside0.mk (below_step (by repeat (first | (with_reducible first | exact HB.out | apply below_alloc | apply pw_below_drewN | apply below_drew1 | refine below_set ?_ GE555.out | refine below_set ?_ GE556.out) | exact HB.out)) hb); clear BK555; clear BK556; clear HB; have BK555 := n0_; have BK556 := n1_; have HB := n2_; clear n0_ n1_ n2_; (try clear hb); (try clear hb2); (try clear hk); (try clear hi)) | ((with_reducible refine gate_callee (f := 9) rfl ?_); refine goesL_ (some 18) rfl rfl Try.func9 (by kernel_rfl) rfl #[.int .i64 t557] rfl (by (try simp only [List.map_toArray, List.map_cons, List.map_nil]); first | done | rfl | (simp only [List.length_drop, List.length_take]; rfl)) ?_; (with_reducible refine (wharflaw19_num.calls t557 t558 _ A8.out).mono ?_); rintro e w' ⟨rfl, ⟨nd, rfl⟩⟩; refine ⟨_, rfl, ?_⟩; have hcz28_0 : w27.cell? ⟨gb556, 0, none⟩ = some (.int .i64 a1_0) := (blk_cell BK556.out 0).trans rfl; have hcz28_1 : w27.cell? ⟨gb556, 1, none⟩ = some (.string a1_1) := (blk_cell BK556.out 1).trans rfl; have hcz28_2 : w27.cell? ⟨gb556, 2, none⟩ = some (.string a1_2) := (blk_cell BK556.out 2).trans rfl; have hcz28_3 : w27.cell? ⟨gb556, 3, none⟩ = some (.string a1_3) := (blk_cell BK556.out 3).trans rfl; have hcz28_4 : w27.cell? ⟨gb556, 4, none⟩ = some (.int .i64 a1_4) := (blk_cell BK556.out 4).trans rfl; have hcz28_5 : w27.cell? ⟨gb556, 5, none⟩ = some (.int .i64 a1_5) := (blk_cell BK556.out 5).trans rfl; have hcz28_6 : w27.cell? ⟨gb556, 6, none⟩ = some (.int .i64 a1_6) := (blk_cell BK556.out 6).trans rfl; have hcz28_7 : w27.cell? ⟨gb556, 7, none⟩ = some (.int .i64 a1_7) := (blk_cell BK556.out 7).trans rfl; have hcz28_8 : w27.cell? ⟨gb556, 8, none⟩ = some (.bool a1_8) := (blk_cell BK556.out 8).trans rfl; have hcz28_9 : w27.cell? ⟨gb556, 9, none⟩ = some (.slice A1_9 l1_9.length c1_9) := (blk_cell BK556.out 9).trans rfl; have hcz28_10 : w27.cell? ⟨gb556, 10, none⟩ = some (.slice A1_10 l1_10.length c1_10) := (blk_cell BK556.out 10).trans rfl; have hfz28_0 := blk_frozen BK556.out 0; have hfz28_1 := blk_frozen BK556.out 1; have hfz28_2 := blk_frozen BK556.out 2; have hfz28_3 := blk_frozen BK556.out 3; have hfz28_4 := blk_frozen BK556.out 4; have hfz28_5 := blk_frozen BK556.out 5; have hfz28_6 := blk_frozen BK556.out 6; have hfz28_7 := blk_frozen BK556.out 7; have hfz28_8 := blk_frozen BK556.out 8; have hfz28_9 := blk_frozen BK556.out 9; have hfz28_10 := blk_frozen BK556.out 10) | (go_at_call 22; (with_reducible refine (wharflaw19_note.calls k a1_0 a1_1 a1_2 a1_3 a1_4 a1_5 a1_6 a1_7 a1_8 _ _ l1_9 _ _ l1_10 t559 _ ?side1 ?side2 ?side3 ?side4 A10.out).mono ?_); (case side1 => repeat (first | exact (Kd.C_below HR1_9.out (by repeat (first | (with_reducible first | exact HB.out | apply below_alloc | apply pw_below_drewN | apply below_drew1 | refine below_set ?_ GE555.out | refine below_set ?_ GE556.out) | exact HB.out))) | (with_reducible refine Kd.C_alloc ?_ _) | (with_reducible refine Kd.C_drewN ?_ _) | (with_reducible refine Kd.C_drew ?_))); (case side2 => exact HC1_9.out); (case side3 => repeat (first | exact (Kd.C_below HR1_10.out (by repeat (first | (with_reducible first | exact HB.out | apply below_alloc | apply pw_below_drewN | apply below_drew1 | refine below_set ?_ GE555.out | refine below_set ?_ GE556.out) | exact HB.out))) | (with_reducible refine Kd.C_alloc ?_ _) | (with_reducible refine Kd.C_drewN ?_ _) | (with_reducible refine Kd.C_drew ?_))); (case side4 => exact HC1_10.out); rintro e w29 ⟨rfl, hb⟩; have n0_ := Aside0.mk (blk_below (g := gb555) (o := .cells #[.int .i64 a0_0, .int .i64 a0_1, .int .i64 a0_2, .int .i64 a0_3, .int .i64 a0_4, .int .i64 a0_5, .int .i64 a0_6, .int .i64 a0_7] 23 (0, 0)) (by (with_reducible repeat (first | refine blk_drewN ?_ _ | refine blk_drew ?_ | refine blk_alloc ?_ _)); exact BK555.out) hb); have n1_ := Aside0.mk (blk_below (g := gb556) (o := .cells #[.int .i64 a1_0, .string a1_1, .string a1_2, .string a1_3, .int .i64 a1_4, .int .i64 a1_5, .int .i64 a1_6, .int .i64 a1_7, .bool a1_8, .slice A1_9 l1_9.length c1_9, .slice A1_10 l1_10.length c1_10] 41 (0, 0)) (by (with_reducible repeat (first | refine blk_drewN ?_ _ | refine blk_drew ?_ | refine blk_alloc ?_ _)); exact BK556.out) hb); have n2_ := Aside0.mk (below_step (by repeat (first | (with_reducible first | exact HB.out | apply below_alloc | apply pw_below_drewN | apply below_drew1 | refine below_set ?_ GE555.out | refine below_set ?_ GE556.out) | exact HB.out)) hb); clear BK555; clear BK556; clear HB; have BK555 := n0_; have BK556 := n1_; have HB := n2_; clear n0_ n1_ n2_; (try clear hb); (try clear hb2); (try clear hk); (try clear hi); have hcz30_0 : w29.cell? ⟨gb556, 0, none⟩ = some (.int .i64 a1_0) := (blk_cell BK556.out 0).trans rfl; have hcz30_1 : w29.cell? ⟨gb556, 1, none⟩ = some (.string a1_1) := (blk_cell BK556.out 1).trans rfl; have hcz30_2 : w29.cell? ⟨gb556, 2, none⟩ = some (.string a1_2) := (blk_cell BK556.out 2).trans rfl; have hcz30_3 : w29.cell? ⟨gb556, 3, none⟩ = some (.string a1_3) := (blk_cell BK556.out 3).trans rfl; have hcz30_4 : w29.cell? ⟨gb556, 4, none⟩ = some (.int .i64 a1_4) := (blk_cell BK556.out 4).trans rfl; have hcz30_5 : w29.cell? ⟨gb556, 5, none⟩ = some (.int .i64 a1_5) := (blk_cell BK556.out 5).trans rfl; have hcz30_6 : w29.cell? ⟨gb556, 6, none⟩ = some (.int .i64 a1_6) := (blk_cell BK556.out 6).trans rfl; have hcz30_7 : w29.cell? ⟨gb556, 7, none⟩ = some (.int .i64 a1_7) := (blk_cell BK556.out 7).trans rfl; have hcz30_8 : w29.cell? ⟨gb556, 8, none⟩ = some (.bool a1_8) := (blk_cell BK556.out 8).trans rfl; have hcz30_9 : w29.cell? ⟨gb556, 9, none⟩ = some (.slice A1_9 l1_9.length c1_9) := (blk_cell BK556.out 9).trans rfl; have hcz30_10 : w29.cell? ⟨gb556, 10, none⟩ = some (.slice A1_10 l1_10.length c1_10) := (blk_cell BK556.out 10).trans rfl; have hfz30_0 := blk_frozen BK556.out 0; have hfz30_1 := blk_frozen BK556.out 1; have hfz30_2 := blk_frozen BK556.out 2; have hfz30_3 := blk_frozen BK556.out 3; have hfz30_4 := blk_frozen BK556.out 4; have hfz30_5 := blk_frozen BK556.out 5; have hfz30_6 := blk_frozen BK556.out 6; have hfz30_7 := blk_frozen BK556.out 7; have hfz30_8 := blk_frozen BK556.out 8; have hfz30_9 := blk_frozen BK556.out 9; have hfz30_10 := blk_frozen BK556.out 10))
      go_meet
      case rel => exact ⟨_, (true), (by first | rfl | (simp; done) | (simp [*]; done)), H', ⟨by first | omega | exact Nat.le_refl _⟩, ⟨by (with_reducible repeat (first | refine blk_drewN ?_ _ | refine blk_drew ?_ | refine blk_alloc ?_ _)); exact BK555.out⟩, ⟨by (with_reducible repeat (first | refine blk_drewN ?_ _ | refine blk_drew ?_ | refine blk_alloc ?_ _)); exact BK556.out⟩, ⟨by repeat (first | (with_reducible first | exact HB.out | apply below_alloc | apply pw_below_drewN | apply below_drew1 | refine below_set ?_ GE555.out | refine below_set ?_ GE556.out) | exact HB.out)⟩⟩
     ·
      rw [if_neg c24] at H
      have c24b0 : (a1_0 == 12) = false := beq_eq_false_iff_ne.mpr c24
      have c24b1 : (a1_0 != 12) = true := bne_iff_ne.mpr c24
      by_cases c31 : a2 < 0
      ·
       rw [if_pos c31] at H
       have c31b0 : decide (a2 < 0) = true := decide_eq_true c31
       clear c31
       have H' := Aside0.mk H
       clear H
       have hnb32 := NB555_556.out
       have hnc32 := NB556_555.out
       have hcz33_0 : w6.cell? ⟨gb555, 0, none⟩ = some (.int .i64 a0_0) := (blk_cell BK555.out 0).trans rfl
       have hcz33_1 : w6.cell? ⟨gb555, 1, none⟩ = some (.int .i64 a0_1) := (blk_cell BK555.out 1).trans rfl
       have hcz33_2 : w6.cell? ⟨gb555, 2, none⟩ = some (.int .i64 a0_2) := (blk_cell BK555.out 2).trans rfl
       have hcz33_3 : w6.cell? ⟨gb555, 3, none⟩ = some (.int .i64 a0_3) := (blk_cell BK555.out 3).trans rfl
       have hcz33_4 : w6.cell? ⟨gb555, 4, none⟩ = some (.int .i64 a0_4) := (blk_cell BK555.out 4).trans rfl
       have hcz33_5 : w6.cell? ⟨gb555, 5, none⟩ = some (.int .i64 a0_5) := (blk_cell BK555.out 5).trans rfl
       have hcz33_6 : w6.cell? ⟨gb555, 6, none⟩ = some (.int .i64 a0_6) := (blk_cell BK555.out 6).trans rfl
       have hcz33_7 : w6.cell? ⟨gb555, 7, none⟩ = some (.int .i64 a0_7) := (blk_cell BK555.out 7).trans rfl
       have hfz33_0 := blk_frozen BK555.out 0
       have hfz33_1 := blk_frozen BK555.out 1
       have hfz33_2 := blk_frozen BK555.out 2
       have hfz33_3 := blk_frozen BK555.out 3
       have hfz33_4 := blk_frozen BK555.out 4
       have hfz33_5 := blk_frozen BK555.out 5
       have hfz33_6 := blk_frozen BK555.out 6
       have hfz33_7 := blk_frozen BK555.out 7
       go_wp2_with (first | ((with_reducible refine gate_callee (f := 10) rfl ?_); refine goesL_ (some 17) rfl rfl Try.func10 (by kernel_rfl) rfl #[.agg #[.int .i64 a0_0, .int .i64 a0_1, .int .i64 a0_2, .int .i64 a0_3, .int .i64 a0_4, .int .i64 a0_5, .int .i64 a0_6, .int .i64 a0_7]] rfl (by (try simp only [List.map_toArray, List.map_cons, List.map_nil]); first | done | rfl | (simp only [List.length_drop, List.length_take]; rfl)) ?_; (with_reducible refine (rate_Check.calls k a0_0 a0_1 a0_2 a0_3 a0_4 a0_5 a0_6 a0_7 t557 _ A7.out).mono ?_); rintro e w34 ⟨rfl, hb⟩; refine ⟨_, rfl, ?_⟩; have n0_ := Aside0.mk (blk_below (g := gb555) (o := .cells #[.int .i64 a0_0, .int .i64 a0_1, .int .i64 a0_2, .int .i64 a0_3, .int .i64 a0_4, .int .i64 a0_5, .int .i64 a0_6, .int .i64 a0_7] 23 (0, 0)) (by (with_reducible repeat (first | refine blk_drewN ?_ _ | refine blk_drew ?_ | refine blk_alloc ?_ _)); exact BK555.out) hb); have n1_ := Aside0.mk (blk_below (g := gb556) (o := .cells #[.int .i64 a1_0, .string a1_1, .string a1_2, .string a1_3, .int .i64 a1_4, .int .i64 a1_5, .int .i64 a1_6, .int .i64 a1_7, .bool a1_8, .slice A1_9 l1_9.length c1_9, .slice A1_10 l1_10.length c1_10] 41 (0, 0)) (by (with_reducible repeat (first | refine blk_drewN ?_ _ | refine blk_drew ?_ | refine blk_alloc ?_ _)); exact BK556.out) hb); have n2_ := Aside0.mk (below_step (by repeat (first | (with_reducible first | exact HB.out | apply below_alloc | apply pw_below_drewN | apply below_drew1 | refine below_set ?_ GE555.out | refine below_set ?_ GE556.out) | exact HB.out)) hb); clear BK555; clear BK556; clear HB; have BK555 := n0_; have BK556 := n1_; have HB := n2_; clear n0_ n1_ n2_; (try clear hb); (try clear hb2); (try clear hk); (try clear hi)) | ((with_reducible refine gate_callee (f := 9) rfl ?_); refine goesL_ (some 18) rfl rfl Try.func9 (by kernel_rfl) rfl #[.int .i64 t557] rfl (by (try simp only [List.map_toArray, List.map_cons, List.map_nil]); first | done | rfl | (simp only [List.length_drop, List.length_take]; rfl)) ?_; (with_reducible refine (wharflaw19_num.calls t557 t558 _ A8.out).mono ?_); rintro e w' ⟨rfl, ⟨nd, rfl⟩⟩; refine ⟨_, rfl, ?_⟩; have hcz35_0 : w34.cell? ⟨gb556, 0, none⟩ = some (.int .i64 a1_0) := (blk_cell BK556.out 0).trans rfl; have hcz35_1 : w34.cell? ⟨gb556, 1, none⟩ = some (.string a1_1) := (blk_cell BK556.out 1).trans rfl; have hcz35_2 : w34.cell? ⟨gb556, 2, none⟩ = some (.string a1_2) := (blk_cell BK556.out 2).trans rfl; have hcz35_3 : w34.cell? ⟨gb556, 3, none⟩ = some (.string a1_3) := (blk_cell BK556.out 3).trans rfl; have hcz35_4 : w34.cell? ⟨gb556, 4, none⟩ = some (.int .i64 a1_4) := (blk_cell BK556.out 4).trans rfl; have hcz35_5 : w34.cell? ⟨gb556, 5, none⟩ = some (.int .i64 a1_5) := (blk_cell BK556.out 5).trans rfl; have hcz35_6 : w34.cell? ⟨gb556, 6, none⟩ = some (.int .i64 a1_6) := (blk_cell BK556.out 6).trans rfl; have hcz35_7 : w34.cell? ⟨gb556, 7, none⟩ = some (.int .i64 a1_7) := (blk_cell BK556.out 7).trans rfl; have hcz35_8 : w34.cell? ⟨gb556, 8, none⟩ = some (.bool a1_8) := (blk_cell BK556.out 8).trans rfl; have hcz35_9 : w34.cell? ⟨gb556, 9, none⟩ = some (.slice A1_9 l1_9.length c1_9) := (blk_cell BK556.out 9).trans rfl; have hcz35_10 : w34.cell? ⟨gb556, 10, none⟩ = some (.slice A1_10 l1_10.length c1_10) := (blk_cell BK556.out 10).trans rfl; have hfz35_0 := blk_frozen BK556.out 0; have hfz35_1 := blk_frozen BK556.out 1; have hfz35_2 := blk_frozen BK556.out 2; have hfz35_3 := blk_frozen BK556.out 3; have hfz35_4 := blk_frozen BK556.out 4; have hfz35_5 := blk_frozen BK556.out 5; have hfz35_6 := blk_frozen BK556.out 6; have hfz35_7 := blk_frozen BK556.out 7; have hfz35_8 := blk_frozen BK556.out 8; have hfz35_9 := blk_frozen BK556.out 9; have hfz35_10 := blk_frozen BK556.out 10) | (go_at_call 22; (with_reducible refine (wharflaw19_note.calls k a1_0 a1_1 a1_2 a1_3 a1_4 a1_5 a1_6 a1_7 a1_8 _ _ l1_9 _ _ l1_10 t559 _ ?side1 ?side2 ?side3 ?side4 A10.out).mono ?_); (case side1 => repeat (first | exact (Kd.C_below HR1_9.out (by repeat (first | (with_reducible first | exact HB.out | apply below_alloc | apply pw_below_drewN | apply below_drew1 | refine below_set ?_ GE555.out | refine below_set ?_ GE556.out) | exact HB.out))) | (with_reducible refine Kd.C_alloc ?_ _) | (with_reducible refine Kd.C_drewN ?_ _) | (with_reducible refine Kd.C_drew ?_))); (case side2 => exact HC1_9.out); (case side3 => repeat (first | exact (Kd.C_below HR1_10.out (by repeat (first | (with_reducible first | exact HB.out | apply below_alloc | apply pw_below_drewN | apply below_drew1 | refine below_set ?_ GE555.out | refine below_set ?_ GE556.out) | exact HB.out))) | (with_reducible refine Kd.C_alloc ?_ _) | (with_reducible refine Kd.C_drewN ?_ _) | (with_reducible refine Kd.C_drew ?_))); (case side4 => exact HC1_10.out); rintro e w36 ⟨rfl, hb⟩; have n0_ := Aside0.mk (blk_below (g := gb555) (o := .cells #[.int .i64 a0_0, .int .i64 a0_1, .int .i64 a0_2, .int .i64 a0_3, .int .i64 a0_4, .int .i64 a0_5, .int .i64 a0_6, .int .i64 a0_7] 23 (0, 0)) (by (with_reducible repeat (first | refine blk_drewN ?_ _ | refine blk_drew ?_ | refine blk_alloc ?_ _)); exact BK555.out) hb); have n1_ := Aside0.mk (blk_below (g := gb556) (o := .cells #[.int .i64 a1_0, .string a1_1, .string a1_2, .string a1_3, .int .i64 a1_4, .int .i64 a1_5, .int .i64 a1_6, .int .i64 a1_7, .bool a1_8, .slice A1_9 l1_9.length c1_9, .slice A1_10 l1_10.length c1_10] 41 (0, 0)) (by (with_reducible repeat (first | refine blk_drewN ?_ _ | refine blk_drew ?_ | refine blk_alloc ?_ _)); exact BK556.out) hb); have n2_ := Aside0.mk (below_step (by repeat (first | (with_reducible first | exact HB.out | apply below_alloc | apply pw_below_drewN | apply below_drew1 | refine below_set ?_ GE555.out | refine below_set ?_ GE556.out) | exact HB.out)) hb); clear BK555; clear BK556; clear HB; have BK555 := n0_; have BK556 := n1_; have HB := n2_; clear n0_ n1_ n2_; (try clear hb); (try clear hb2); (try clear hk); (try clear hi); have hcz37_0 : w36.cell? ⟨gb556, 0, none⟩ = some (.int .i64 a1_0) := (blk_cell BK556.out 0).trans rfl; have hcz37_1 : w36.cell? ⟨gb556, 1, none⟩ = some (.string a1_1) := (blk_cell BK556.out 1).trans rfl; have hcz37_2 : w36.cell? ⟨gb556, 2, none⟩ = some (.string a1_2) := (blk_cell BK556.out 2).trans rfl; have hcz37_3 : w36.cell? ⟨gb556, 3, none⟩ = some (.string a1_3) := (blk_cell BK556.out 3).trans rfl; have hcz37_4 : w36.cell? ⟨gb556, 4, none⟩ = some (.int .i64 a1_4) := (blk_cell BK556.out 4).trans rfl; have hcz37_5 : w36.cell? ⟨gb556, 5, none⟩ = some (.int .i64 a1_5) := (blk_cell BK556.out 5).trans rfl; have hcz37_6 : w36.cell? ⟨gb556, 6, none⟩ = some (.int .i64 a1_6) := (blk_cell BK556.out 6).trans rfl; have hcz37_7 : w36.cell? ⟨gb556, 7, none⟩ = some (.int .i64 a1_7) := (blk_cell BK556.out 7).trans rfl; have hcz37_8 : w36.cell? ⟨gb556, 8, none⟩ = some (.bool a1_8) := (blk_cell BK556.out 8).trans rfl; have hcz37_9 : w36.cell? ⟨gb556, 9, none⟩ = some (.slice A1_9 l1_9.length c1_9) := (blk_cell BK556.out 9).trans rfl; have hcz37_10 : w36.cell? ⟨gb556, 10, none⟩ = some (.slice A1_10 l1_10.length c1_10) := (blk_cell BK556.out 10).trans rfl; have hfz37_0 := blk_frozen BK556.out 0; have hfz37_1 := blk_frozen BK556.out 1; have hfz37_2 := blk_frozen BK556.out 2; have hfz37_3 := blk_frozen BK556.out 3; have hfz37_4 := blk_frozen BK556.out 4; have hfz37_5 := blk_frozen BK556.out 5; have hfz37_6 := blk_frozen BK556.out 6; have hfz37_7 := blk_frozen BK556.out 7; have hfz37_8 := blk_frozen BK556.out 8; have hfz37_9 := blk_frozen BK556.out 9; have hfz37_10 := blk_frozen BK556.out 10))
       go_meet
       case rel => exact ⟨_, (true), (by first | rfl | (simp; done) | (simp [*]; done)), H', ⟨by first | omega | exact Nat.le_refl _⟩, ⟨by (with_reducible repeat (first | refine blk_drewN ?_ _ | refine blk_drew ?_ | refine blk_alloc ?_ _)); exact BK555.out⟩, ⟨by (with_reducible repeat (first | refine blk_drewN ?_ _ | refine blk_drew ?_ | refine blk_alloc ?_ _)); exact BK556.out⟩, ⟨by repeat (first | (with_reducible first | exact HB.out | apply below_alloc | apply pw_below_drewN | apply below_drew1 | refine below_set ?_ GE555.out | refine below_set ?_ GE556.out) | exact HB.out)⟩⟩
      ·
       rw [if_neg c31] at H
       have c31b0 : decide (a2 < 0) = false := decide_eq_false c31
       clear c31
       have H' := Aside0.mk H
       clear H
       have hnb38 := NB555_556.out
       have hnc38 := NB556_555.out
       have hcz39_0 : w6.cell? ⟨gb555, 0, none⟩ = some (.int .i64 a0_0) := (blk_cell BK555.out 0).trans rfl
       have hcz39_1 : w6.cell? ⟨gb555, 1, none⟩ = some (.int .i64 a0_1) := (blk_cell BK555.out 1).trans rfl
       have hcz39_2 : w6.cell? ⟨gb555, 2, none⟩ = some (.int .i64 a0_2) := (blk_cell BK555.out 2).trans rfl
       have hcz39_3 : w6.cell? ⟨gb555, 3, none⟩ = some (.int .i64 a0_3) := (blk_cell BK555.out 3).trans rfl
       have hcz39_4 : w6.cell? ⟨gb555, 4, none⟩ = some (.int .i64 a0_4) := (blk_cell BK555.out 4).trans rfl
       have hcz39_5 : w6.cell? ⟨gb555, 5, none⟩ = some (.int .i64 a0_5) := (blk_cell BK555.out 5).trans rfl
       have hcz39_6 : w6.cell? ⟨gb555, 6, none⟩ = some (.int .i64 a0_6) := (blk_cell BK555.out 6).trans rfl
       have hcz39_7 : w6.cell? ⟨gb555, 7, none⟩ = some (.int .i64 a0_7) := (blk_cell BK555.out 7).trans rfl
       have hfz39_0 := blk_frozen BK555.out 0
       have hfz39_1 := blk_frozen BK555.out 1
       have hfz39_2 := blk_frozen BK555.out 2
       have hfz39_3 := blk_frozen BK555.out 3
       have hfz39_4 := blk_frozen BK555.out 4
       have hfz39_5 := blk_frozen BK555.out 5
       have hfz39_6 := blk_frozen BK555.out 6
       have hfz39_7 := blk_frozen BK555.out 7
       go_wp2_with (first | ((with_reducible refine gate_callee (f := 10) rfl ?_); refine goesL_ (some 17) rfl rfl Try.func10 (by kernel_rfl) rfl #[.agg #[.int .i64 a0_0, .int .i64 a0_1, .int .i64 a0_2, .int .i64 a0_3, .int .i64 a0_4, .int .i64 a0_5, .int .i64 a0_6, .int .i64 a0_7]] rfl (by (try simp only [List.map_toArray, List.map_cons, List.map_nil]); first | done | rfl | (simp only [List.length_drop, List.length_take]; rfl)) ?_; (with_reducible refine (rate_Check.calls k a0_0 a0_1 a0_2 a0_3 a0_4 a0_5 a0_6 a0_7 t557 _ A7.out).mono ?_); rintro e w40 ⟨rfl, hb⟩; refine ⟨_, rfl, ?_⟩; have n0_ := Aside0.mk (blk_below (g := gb555) (o := .cells #[.int .i64 a0_0, .int .i64 a0_1, .int .i64 a0_2, .int .i64 a0_3, .int .i64 a0_4, .int .i64 a0_5, .int .i64 a0_6, .int .i64 a0_7] 23 (0, 0)) (by (with_reducible repeat (first | refine blk_drewN ?_ _ | refine blk_drew ?_ | refine blk_alloc ?_ _)); exact BK555.out) hb); have n1_ := Aside0.mk (blk_below (g := gb556) (o := .cells #[.int .i64 a1_0, .string a1_1, .string a1_2, .string a1_3, .int .i64 a1_4, .int .i64 a1_5, .int .i64 a1_6, .int .i64 a1_7, .bool a1_8, .slice A1_9 l1_9.length c1_9, .slice A1_10 l1_10.length c1_10] 41 (0, 0)) (by (with_reducible repeat (first | refine blk_drewN ?_ _ | refine blk_drew ?_ | refine blk_alloc ?_ _)); exact BK556.out) hb); have n2_ := Aside0.mk (below_step (by repeat (first | (with_reducible first | exact HB.out | apply below_alloc | apply pw_below_drewN | apply below_drew1 | refine below_set ?_ GE555.out | refine below_set ?_ GE556.out) | exact HB.out)) hb); clear BK555; clear BK556; clear HB; have BK555 := n0_; have BK556 := n1_; have HB := n2_; clear n0_ n1_ n2_; (try clear hb); (try clear hb2); (try clear hk); (try clear hi)) | ((with_reducible refine gate_callee (f := 9) rfl ?_); refine goesL_ (some 18) rfl rfl Try.func9 (by kernel_rfl) rfl #[.int .i64 t557] rfl (by (try simp only [List.map_toArray, List.map_cons, List.map_nil]); first | done | rfl | (simp only [List.length_drop, List.length_take]; rfl)) ?_; (with_reducible refine (wharflaw19_num.calls t557 t558 _ A8.out).mono ?_); rintro e w' ⟨rfl, ⟨nd, rfl⟩⟩; refine ⟨_, rfl, ?_⟩; have hcz41_0 : w40.cell? ⟨gb556, 0, none⟩ = some (.int .i64 a1_0) := (blk_cell BK556.out 0).trans rfl; have hcz41_1 : w40.cell? ⟨gb556, 1, none⟩ = some (.string a1_1) := (blk_cell BK556.out 1).trans rfl; have hcz41_2 : w40.cell? ⟨gb556, 2, none⟩ = some (.string a1_2) := (blk_cell BK556.out 2).trans rfl; have hcz41_3 : w40.cell? ⟨gb556, 3, none⟩ = some (.string a1_3) := (blk_cell BK556.out 3).trans rfl; have hcz41_4 : w40.cell? ⟨gb556, 4, none⟩ = some (.int .i64 a1_4) := (blk_cell BK556.out 4).trans rfl; have hcz41_5 : w40.cell? ⟨gb556, 5, none⟩ = some (.int .i64 a1_5) := (blk_cell BK556.out 5).trans rfl; have hcz41_6 : w40.cell? ⟨gb556, 6, none⟩ = some (.int .i64 a1_6) := (blk_cell BK556.out 6).trans rfl; have hcz41_7 : w40.cell? ⟨gb556, 7, none⟩ = some (.int .i64 a1_7) := (blk_cell BK556.out 7).trans rfl; have hcz41_8 : w40.cell? ⟨gb556, 8, none⟩ = some (.bool a1_8) := (blk_cell BK556.out 8).trans rfl; have hcz41_9 : w40.cell? ⟨gb556, 9, none⟩ = some (.slice A1_9 l1_9.length c1_9) := (blk_cell BK556.out 9).trans rfl; have hcz41_10 : w40.cell? ⟨gb556, 10, none⟩ = some (.slice A1_10 l1_10.length c1_10) := (blk_cell BK556.out 10).trans rfl; have hfz41_0 := blk_frozen BK556.out 0; have hfz41_1 := blk_frozen BK556.out 1; have hfz41_2 := blk_frozen BK556.out 2; have hfz41_3 := blk_frozen BK556.out 3; have hfz41_4 := blk_frozen BK556.out 4; have hfz41_5 := blk_frozen BK556.out 5; have hfz41_6 := blk_frozen BK556.out 6; have hfz41_7 := blk_frozen BK556.out 7; have hfz41_8 := blk_frozen BK556.out 8; have hfz41_9 := blk_frozen BK556.out 9; have hfz41_10 := blk_frozen BK556.out 10) | (go_at_call 22; (with_reducible refine (wharflaw19_note.calls k a1_0 a1_1 a1_2 a1_3 a1_4 a1_5 a1_6 a1_7 a1_8 _ _ l1_9 _ _ l1_10 t559 _ ?side1 ?side2 ?side3 ?side4 A10.out).mono ?_); (case side1 => repeat (first | exact (Kd.C_below HR1_9.out (by repeat (first | (with_reducible first | exact HB.out | apply below_alloc | apply pw_below_drewN | apply below_drew1 | refine below_set ?_ GE555.out | refine below_set ?_ GE556.out) | exact HB.out))) | (with_reducible refine Kd.C_alloc ?_ _) | (with_reducible refine Kd.C_drewN ?_ _) | (with_reducible refine Kd.C_drew ?_))); (case side2 => exact HC1_9.out); (case side3 => repeat (first | exact (Kd.C_below HR1_10.out (by repeat (first | (with_reducible first | exact HB.out | apply below_alloc | apply pw_below_drewN | apply below_drew1 | refine below_set ?_ GE555.out | refine below_set ?_ GE556.out) | exact HB.out))) | (with_reducible refine Kd.C_alloc ?_ _) | (with_reducible refine Kd.C_drewN ?_ _) | (with_reducible refine Kd.C_drew ?_))); (case side4 => exact HC1_10.out); rintro e w42 ⟨rfl, hb⟩; have n0_ := Aside0.mk (blk_below (g := gb555) (o := .cells #[.int .i64 a0_0, .int .i64 a0_1, .int .i64 a0_2, .int .i64 a0_3, .int .i64 a0_4, .int .i64 a0_5, .int .i64 a0_6, .int .i64 a0_7] 23 (0, 0)) (by (with_reducible repeat (first | refine blk_drewN ?_ _ | refine blk_drew ?_ | refine blk_alloc ?_ _)); exact BK555.out) hb); have n1_ := Aside0.mk (blk_below (g := gb556) (o := .cells #[.int .i64 a1_0, .string a1_1, .string a1_2, .string a1_3, .int .i64 a1_4, .int .i64 a1_5, .int .i64 a1_6, .int .i64 a1_7, .bool a1_8, .slice A1_9 l1_9.length c1_9, .slice A1_10 l1_10.length c1_10] 41 (0, 0)) (by (with_reducible repeat (first | refine blk_drewN ?_ _ | refine blk_drew ?_ | refine blk_alloc ?_ _)); exact BK556.out) hb); have n2_ := Aside0.mk (below_step (by repeat (first | (with_reducible first | exact HB.out | apply below_alloc | apply pw_below_drewN | apply below_drew1 | refine below_set ?_ GE555.out | refine below_set ?_ GE556.out) | exact HB.out)) hb); clear BK555; clear BK556; clear HB; have BK555 := n0_; have BK556 := n1_; have HB := n2_; clear n0_ n1_ n2_; (try clear hb); (try clear hb2); (try clear hk); (try clear hi); have hcz43_0 : w42.cell? ⟨gb556, 0, none⟩ = some (.int .i64 a1_0) := (blk_cell BK556.out 0).trans rfl; have hcz43_1 : w42.cell? ⟨gb556, 1, none⟩ = some (.string a1_1) := (blk_cell BK556.out 1).trans rfl; have hcz43_2 : w42.cell? ⟨gb556, 2, none⟩ = some (.string a1_2) := (blk_cell BK556.out 2).trans rfl; have hcz43_3 : w42.cell? ⟨gb556, 3, none⟩ = some (.string a1_3) := (blk_cell BK556.out 3).trans rfl; have hcz43_4 : w42.cell? ⟨gb556, 4, none⟩ = some (.int .i64 a1_4) := (blk_cell BK556.out 4).trans rfl; have hcz43_5 : w42.cell? ⟨gb556, 5, none⟩ = some (.int .i64 a1_5) := (blk_cell BK556.out 5).trans rfl; have hcz43_6 : w42.cell? ⟨gb556, 6, none⟩ = some (.int .i64 a1_6) := (blk_cell BK556.out 6).trans rfl; have hcz43_7 : w42.cell? ⟨gb556, 7, none⟩ = some (.int .i64 a1_7) := (blk_cell BK556.out 7).trans rfl; have hcz43_8 : w42.cell? ⟨gb556, 8, none⟩ = some (.bool a1_8) := (blk_cell BK556.out 8).trans rfl; have hcz43_9 : w42.cell? ⟨gb556, 9, none⟩ = some (.slice A1_9 l1_9.length c1_9) := (blk_cell BK556.out 9).trans rfl; have hcz43_10 : w42.cell? ⟨gb556, 10, none⟩ = some (.slice A1_10 l1_10.length c1_10) := (blk_cell BK556.out 10).trans rfl; have hfz43_0 := blk_frozen BK556.out 0; have hfz43_1 := blk_frozen BK556.out 1; have hfz43_2 := blk_frozen BK556.out 2; have hfz43_3 := blk_frozen BK556.out 3; have hfz43_4 := blk_frozen BK556.out 4; have hfz43_5 := blk_frozen BK556.out 5; have hfz43_6 := blk_frozen BK556.out 6; have hfz43_7 := blk_frozen BK556.out 7; have hfz43_8 := blk_frozen BK556.out 8; have hfz43_9 := blk_frozen BK556.out 9; have hfz43_10 := blk_frozen BK556.out 10))
       go_meet
       case rel => exact ⟨_, (decide (a2 > 65535)), (by first | rfl | (simp; done) | (simp [*]; done)), H', ⟨by first | omega | exact Nat.le_refl _⟩, ⟨by (with_reducible repeat (first | refine blk_drewN ?_ _ | refine blk_drew ?_ | refine blk_alloc ?_ _)); exact BK555.out⟩, ⟨by (with_reducible repeat (first | refine blk_drewN ?_ _ | refine blk_drew ?_ | refine blk_alloc ?_ _)); exact BK556.out⟩, ⟨by repeat (first | (with_reducible first | exact HB.out | apply below_alloc | apply pw_below_drewN | apply below_drew1 | refine below_set ?_ GE555.out | refine below_set ?_ GE556.out) | exact HB.out)⟩⟩
  ·
   rw [if_neg c9] at H
   have c9b0 : (t558 == 0) = false := beq_eq_false_iff_ne.mpr c9
   have c9b1 : (t558 != 0) = true := bne_iff_ne.mpr c9
   (first | rw [c9b0] | (simp only [i64_w, i32_w]; rw [c9b0]) | skip)
   have H' := Aside0.mk H
   clear H
   have hnb44 := NB555_556.out
   have hnc44 := NB556_555.out
   have hcz45_0 : w6.cell? ⟨gb555, 0, none⟩ = some (.int .i64 a0_0) := (blk_cell BK555.out 0).trans rfl
   have hcz45_1 : w6.cell? ⟨gb555, 1, none⟩ = some (.int .i64 a0_1) := (blk_cell BK555.out 1).trans rfl
   have hcz45_2 : w6.cell? ⟨gb555, 2, none⟩ = some (.int .i64 a0_2) := (blk_cell BK555.out 2).trans rfl
   have hcz45_3 : w6.cell? ⟨gb555, 3, none⟩ = some (.int .i64 a0_3) := (blk_cell BK555.out 3).trans rfl
   have hcz45_4 : w6.cell? ⟨gb555, 4, none⟩ = some (.int .i64 a0_4) := (blk_cell BK555.out 4).trans rfl
   have hcz45_5 : w6.cell? ⟨gb555, 5, none⟩ = some (.int .i64 a0_5) := (blk_cell BK555.out 5).trans rfl
   have hcz45_6 : w6.cell? ⟨gb555, 6, none⟩ = some (.int .i64 a0_6) := (blk_cell BK555.out 6).trans rfl
   have hcz45_7 : w6.cell? ⟨gb555, 7, none⟩ = some (.int .i64 a0_7) := (blk_cell BK555.out 7).trans rfl
   have hfz45_0 := blk_frozen BK555.out 0
   have hfz45_1 := blk_frozen BK555.out 1
   have hfz45_2 := blk_frozen BK555.out 2
   have hfz45_3 := blk_frozen BK555.out 3
   have hfz45_4 := blk_frozen BK555.out 4
   have hfz45_5 := blk_frozen BK555.out 5
   have hfz45_6 := blk_frozen BK555.out 6
   have hfz45_7 := blk_frozen BK555.out 7
   go_wp2_with (first | ((with_reducible refine gate_callee (f := 10) rfl ?_); refine goesL_ (some 17) rfl rfl Try.func10 (by kernel_rfl) rfl #[.agg #[.int .i64 a0_0, .int .i64 a0_1, .int .i64 a0_2, .int .i64 a0_3, .int .i64 a0_4, .int .i64 a0_5, .int .i64 a0_6, .int .i64 a0_7]] rfl (by (try simp only [List.map_toArray, List.map_cons, List.map_nil]); first | done | rfl | (simp only [List.length_drop, List.length_take]; rfl)) ?_; (with_reducible refine (rate_Check.calls k a0_0 a0_1 a0_2 a0_3 a0_4 a0_5 a0_6 a0_7 t557 _ A7.out).mono ?_); rintro e w46 ⟨rfl, hb⟩; refine ⟨_, rfl, ?_⟩; have n0_ := Aside0.mk (blk_below (g := gb555) (o := .cells #[.int .i64 a0_0, .int .i64 a0_1, .int .i64 a0_2, .int .i64 a0_3, .int .i64 a0_4, .int .i64 a0_5, .int .i64 a0_6, .int .i64 a0_7] 23 (0, 0)) (by (with_reducible repeat (first | refine blk_drewN ?_ _ | refine blk_drew ?_ | refine blk_alloc ?_ _)); exact BK555.out) hb); have n1_ := Aside0.mk (blk_below (g := gb556) (o := .cells #[.int .i64 a1_0, .string a1_1, .string a1_2, .string a1_3, .int .i64 a1_4, .int .i64 a1_5, .int .i64 a1_6, .int .i64 a1_7, .bool a1_8, .slice A1_9 l1_9.length c1_9, .slice A1_10 l1_10.length c1_10] 41 (0, 0)) (by (with_reducible repeat (first | refine blk_drewN ?_ _ | refine blk_drew ?_ | refine blk_alloc ?_ _)); exact BK556.out) hb); have n2_ := Aside0.mk (below_step (by repeat (first | (with_reducible first | exact HB.out | apply below_alloc | apply pw_below_drewN | apply below_drew1 | refine below_set ?_ GE555.out | refine below_set ?_ GE556.out) | exact HB.out)) hb); clear BK555; clear BK556; clear HB; have BK555 := n0_; have BK556 := n1_; have HB := n2_; clear n0_ n1_ n2_; (try clear hb); (try clear hb2); (try clear hk); (try clear hi)) | ((with_reducible refine gate_callee (f := 9) rfl ?_); refine goesL_ (some 18) rfl rfl Try.func9 (by kernel_rfl) rfl #[.int .i64 t557] rfl (by (try simp only [List.map_toArray, List.map_cons, List.map_nil]); first | done | rfl | (simp only [List.length_drop, List.length_take]; rfl)) ?_; (with_reducible refine (wharflaw19_num.calls t557 t558 _ A8.out).mono ?_); rintro e w' ⟨rfl, ⟨nd, rfl⟩⟩; refine ⟨_, rfl, ?_⟩))
   go_meet
   case rel => exact ⟨_, (true), (by first | rfl | (simp; done) | (simp [*]; done)), H', ⟨by first | omega | exact Nat.le_refl _⟩, ⟨by (with_reducible repeat (first | refine blk_drewN ?_ _ | refine blk_drew ?_ | refine blk_alloc ?_ _)); exact BK555.out⟩, ⟨by (with_reducible repeat (first | refine blk_drewN ?_ _ | refine blk_drew ?_ | refine blk_alloc ?_ _)); exact BK556.out⟩, ⟨by repeat (first | (with_reducible first | exact HB.out | apply below_alloc | apply pw_below_drewN | apply below_drew1 | refine below_set ?_ GE555.out | refine below_set ?_ GE556.out) | exact HB.out)⟩⟩
 case rest =>
  clear HC4
  try clear c1
  try clear c2
  try clear p2
  try clear c3
  try clear c4
  try clear c8
  try clear c9
  try clear c9b0
  try clear c9b1
  try clear c10
  try clear c11
  try clear c11b0
  try clear c12
  try clear c17
  try clear c17b0
  try clear c17b1
  try clear c18
  try clear c24
  try clear c24b0
  try clear c24b1
  try clear c25
  try clear c31
  try clear c31b0
  try clear c32
  try clear c38
  try clear c44
  try clear hcz13_0
  try clear hcz13_1
  try clear hcz13_2
  try clear hcz13_3
  try clear hcz13_4
  try clear hcz13_5
  try clear hcz13_6
  try clear hcz13_7
  try clear hcz15_0
  try clear hcz15_1
  try clear hcz15_10
  try clear hcz15_2
  try clear hcz15_3
  try clear hcz15_4
  try clear hcz15_5
  try clear hcz15_6
  try clear hcz15_7
  try clear hcz15_8
  try clear hcz15_9
  try clear hcz19_0
  try clear hcz19_1
  try clear hcz19_2
  try clear hcz19_3
  try clear hcz19_4
  try clear hcz19_5
  try clear hcz19_6
  try clear hcz19_7
  try clear hcz21_0
  try clear hcz21_1
  try clear hcz21_10
  try clear hcz21_2
  try clear hcz21_3
  try clear hcz21_4
  try clear hcz21_5
  try clear hcz21_6
  try clear hcz21_7
  try clear hcz21_8
  try clear hcz21_9
  try clear hcz23_0
  try clear hcz23_1
  try clear hcz23_10
  try clear hcz23_2
  try clear hcz23_3
  try clear hcz23_4
  try clear hcz23_5
  try clear hcz23_6
  try clear hcz23_7
  try clear hcz23_8
  try clear hcz23_9
  try clear hcz26_0
  try clear hcz26_1
  try clear hcz26_2
  try clear hcz26_3
  try clear hcz26_4
  try clear hcz26_5
  try clear hcz26_6
  try clear hcz26_7
  try clear hcz28_0
  try clear hcz28_1
  try clear hcz28_10
  try clear hcz28_2
  try clear hcz28_3
  try clear hcz28_4
  try clear hcz28_5
  try clear hcz28_6
  try clear hcz28_7
  try clear hcz28_8
  try clear hcz28_9
  try clear hcz30_0
  try clear hcz30_1
  try clear hcz30_10
  try clear hcz30_2
  try clear hcz30_3
  try clear hcz30_4
  try clear hcz30_5
  try clear hcz30_6
  try clear hcz30_7
  try clear hcz30_8
  try clear hcz30_9
  try clear hcz33_0
  try clear hcz33_1
  try clear hcz33_2
  try clear hcz33_3
  try clear hcz33_4
  try clear hcz33_5
  try clear hcz33_6
  try clear hcz33_7
  try clear hcz35_0
  try clear hcz35_1
  try clear hcz35_10
  try clear hcz35_2
  try clear hcz35_3
  try clear hcz35_4
  try clear hcz35_5
  try clear hcz35_6
  try clear hcz35_7
  try clear hcz35_8
  try clear hcz35_9
  try clear hcz37_0
  try clear hcz37_1
  try clear hcz37_10
  try clear hcz37_2
  try clear hcz37_3
  try clear hcz37_4
  try clear hcz37_5
  try clear hcz37_6
  try clear hcz37_7
  try clear hcz37_8
  try clear hcz37_9
  try clear hcz39_0
  try clear hcz39_1
  try clear hcz39_2
  try clear hcz39_3
  try clear hcz39_4
  try clear hcz39_5
  try clear hcz39_6
  try clear hcz39_7
  try clear hcz41_0
  try clear hcz41_1
  try clear hcz41_10
  try clear hcz41_2
  try clear hcz41_3
  try clear hcz41_4
  try clear hcz41_5
  try clear hcz41_6
  try clear hcz41_7
  try clear hcz41_8
  try clear hcz41_9
  try clear hcz43_0
  try clear hcz43_1
  try clear hcz43_10
  try clear hcz43_2
  try clear hcz43_3
  try clear hcz43_4
  try clear hcz43_5
  try clear hcz43_6
  try clear hcz43_7
  try clear hcz43_8
  try clear hcz43_9
  try clear hcz45_0
  try clear hcz45_1
  try clear hcz45_2
  try clear hcz45_3
  try clear hcz45_4
  try clear hcz45_5
  try clear hcz45_6
  try clear hcz45_7
  try clear hfz13_0
  try clear hfz13_1
  try clear hfz13_2
  try clear hfz13_3
  try clear hfz13_4
  try clear hfz13_5
  try clear hfz13_6
  try clear hfz13_7
  try clear hfz15_0
  try clear hfz15_1
  try clear hfz15_10
  try clear hfz15_2
  try clear hfz15_3
  try clear hfz15_4
  try clear hfz15_5
  try clear hfz15_6
  try clear hfz15_7
  try clear hfz15_8
  try clear hfz15_9
  try clear hfz19_0
  try clear hfz19_1
  try clear hfz19_2
  try clear hfz19_3
  try clear hfz19_4
  try clear hfz19_5
  try clear hfz19_6
  try clear hfz19_7
  try clear hfz21_0
  try clear hfz21_1
  try clear hfz21_10
  try clear hfz21_2
  try clear hfz21_3
  try clear hfz21_4
  try clear hfz21_5
  try clear hfz21_6
  try clear hfz21_7
  try clear hfz21_8
  try clear hfz21_9
  try clear hfz23_0
  try clear hfz23_1
  try clear hfz23_10
  try clear hfz23_2
  try clear hfz23_3
  try clear hfz23_4
  try clear hfz23_5
  try clear hfz23_6
  try clear hfz23_7
  try clear hfz23_8
  try clear hfz23_9
  try clear hfz26_0
  try clear hfz26_1
  try clear hfz26_2
  try clear hfz26_3
  try clear hfz26_4
  try clear hfz26_5
  try clear hfz26_6
  try clear hfz26_7
  try clear hfz28_0
  try clear hfz28_1
  try clear hfz28_10
  try clear hfz28_2
  try clear hfz28_3
  try clear hfz28_4
  try clear hfz28_5
  try clear hfz28_6
  try clear hfz28_7
  try clear hfz28_8
  try clear hfz28_9
  try clear hfz30_0
  try clear hfz30_1
  try clear hfz30_10
  try clear hfz30_2
  try clear hfz30_3
  try clear hfz30_4
  try clear hfz30_5
  try clear hfz30_6
  try clear hfz30_7
  try clear hfz30_8
  try clear hfz30_9
  try clear hfz33_0
  try clear hfz33_1
  try clear hfz33_2
  try clear hfz33_3
  try clear hfz33_4
  try clear hfz33_5
  try clear hfz33_6
  try clear hfz33_7
  try clear hfz35_0
  try clear hfz35_1
  try clear hfz35_10
  try clear hfz35_2
  try clear hfz35_3
  try clear hfz35_4
  try clear hfz35_5
  try clear hfz35_6
  try clear hfz35_7
  try clear hfz35_8
  try clear hfz35_9
  try clear hfz37_0
  try clear hfz37_1
  try clear hfz37_10
  try clear hfz37_2
  try clear hfz37_3
  try clear hfz37_4
  try clear hfz37_5
  try clear hfz37_6
  try clear hfz37_7
  try clear hfz37_8
  try clear hfz37_9
  try clear hfz39_0
  try clear hfz39_1
  try clear hfz39_2
  try clear hfz39_3
  try clear hfz39_4
  try clear hfz39_5
  try clear hfz39_6
  try clear hfz39_7
  try clear hfz41_0
  try clear hfz41_1
  try clear hfz41_10
  try clear hfz41_2
  try clear hfz41_3
  try clear hfz41_4
  try clear hfz41_5
  try clear hfz41_6
  try clear hfz41_7
  try clear hfz41_8
  try clear hfz41_9
  try clear hfz43_0
  try clear hfz43_1
  try clear hfz43_10
  try clear hfz43_2
  try clear hfz43_3
  try clear hfz43_4
  try clear hfz43_5
  try clear hfz43_6
  try clear hfz43_7
  try clear hfz43_8
  try clear hfz43_9
  try clear hfz45_0
  try clear hfz45_1
  try clear hfz45_2
  try clear hfz45_3
  try clear hfz45_4
  try clear hfz45_5
  try clear hfz45_6
  try clear hfz45_7
  obtain ⟨kq, x42_3, rfl, HA, HJ3, BK555, BK556, HB⟩ := hcut
  cases kq with
  | zero => exact absurd HA.out (by simp [wharflaw19_RateFull.j0])
  | succ kj3 =>
   have H := HA.out
   clear HA
   simp only [wharflaw19_RateFull.j0] at H
   by_cases c47 : x42_3 = true
   ·
    subst c47
    have H1 : ((wharflaw19_live.f kj3).bind fun t560 => (some t560)) = some r := by rw [if_pos rfl] at H; exact H
    clear H
    have H := H1
    clear H1
    replace H := Option.bind_eq_some_iff.mp H
    obtain ⟨t560, A480, H⟩ := H
    replace H : (some t560) = some r := H
    have A48 := Aside0.mk A480
    clear A480
    obtain rfl := Option.some.inj H
    go_wp2_with (first | ((with_reducible refine gate_callee (f := 13) rfl ?_); refine goesL_ (some 43) rfl rfl Try.func13 (by kernel_rfl) rfl #[] rfl (by (try simp only [List.map_toArray, List.map_cons, List.map_nil]); first | done | rfl | (simp only [List.length_drop, List.length_take]; rfl)) ?_; (with_reducible refine (wharflaw19_live.calls kj3  t560 _ A48.out).mono ?_); rintro e w49 ⟨rfl, hb⟩; refine ⟨_, rfl, ?_⟩; have n0_ := Aside0.mk (blk_below (g := gb555) (o := .cells #[.int .i64 a0_0, .int .i64 a0_1, .int .i64 a0_2, .int .i64 a0_3, .int .i64 a0_4, .int .i64 a0_5, .int .i64 a0_6, .int .i64 a0_7] 23 (0, 0)) (by (with_reducible repeat (first | refine blk_drewN ?_ _ | refine blk_drew ?_ | refine blk_alloc ?_ _)); exact BK555.out) hb); have n1_ := Aside0.mk (blk_below (g := gb556) (o := .cells #[.int .i64 a1_0, .string a1_1, .string a1_2, .string a1_3, .int .i64 a1_4, .int .i64 a1_5, .int .i64 a1_6, .int .i64 a1_7, .bool a1_8, .slice A1_9 l1_9.length c1_9, .slice A1_10 l1_10.length c1_10] 41 (0, 0)) (by (with_reducible repeat (first | refine blk_drewN ?_ _ | refine blk_drew ?_ | refine blk_alloc ?_ _)); exact BK556.out) hb); have n2_ := Aside0.mk (below_step (by repeat (first | (with_reducible first | exact HB.out | apply below_alloc | apply pw_below_drewN | apply below_drew1 | refine below_set ?_ GE555.out | refine below_set ?_ GE556.out) | exact HB.out)) hb); clear BK555; clear BK556; clear HB; have BK555 := n0_; have BK556 := n1_; have HB := n2_; clear n0_ n1_ n2_; (try clear hb); (try clear hb2); (try clear hk); (try clear hi)))
    go_ret
    exact ⟨by first | rfl | (simp [errW_none, errW_some] <;> rfl) | (simp [*, errW_none, errW_some] <;> rfl), by repeat (first | (with_reducible first | exact HB.out | apply below_alloc | apply pw_below_drewN | apply below_drew1 | refine below_set ?_ GE555.out | refine below_set ?_ GE556.out) | exact HB.out)⟩
   ·
    replace c47 := Bool.eq_false_iff.mpr c47
    subst c47
    have H1 : ((rate_Push.f kj3 a0_0 a0_1 a0_2 a0_3 a0_4 a0_5 a0_6 a0_7 ([] : List (S41)) 11 (⟨#[]⟩ : ByteArray) (⟨#[]⟩ : ByteArray) (⟨#[]⟩ : ByteArray) 0 0 0 0 false ([] : List (S69)) ([] : List Int)).bind fun bt561 => ((wharflaw19_num.f bt561.2.2.2.2.2.2.2.2.2).bind fun t574 => (if t574 = 0 then (wharflaw19_RateFull.l0 kj3 a2 1 a1_0 a1_1 a1_2 a1_3 a1_4 a1_5 a1_6 a1_7 a1_8 l1_9 l1_10 bt561.1 bt561.2.1 bt561.2.2.1 bt561.2.2.2.1 bt561.2.2.2.2.1 bt561.2.2.2.2.2.1 bt561.2.2.2.2.2.2.1 bt561.2.2.2.2.2.2.2.1 bt561.2.2.2.2.2.2.2.2.1) else (some false)))) = some r := by rw [if_neg (show ¬ (false = true) by decide)] at H; exact H
    clear H
    have H := H1
    clear H1
    replace H := Option.bind_eq_some_iff.mp H
    obtain ⟨⟨t561, t562, t563, t564, t565, t566, t567, t568, t569, t572⟩, A500, H⟩ := H
    replace H : ((wharflaw19_num.f t572).bind fun t574 => (if t574 = 0 then (wharflaw19_RateFull.l0 kj3 a2 1 a1_0 a1_1 a1_2 a1_3 a1_4 a1_5 a1_6 a1_7 a1_8 l1_9 l1_10 t561 t562 t563 t564 t565 t566 t567 t568 t569) else (some false))) = some r := H
    have A50 := Aside0.mk A500
    clear A500
    replace H := Option.bind_eq_some_iff.mp H
    obtain ⟨t574, A510, H⟩ := H
    replace H : (if t574 = 0 then (wharflaw19_RateFull.l0 kj3 a2 1 a1_0 a1_1 a1_2 a1_3 a1_4 a1_5 a1_6 a1_7 a1_8 l1_9 l1_10 t561 t562 t563 t564 t565 t566 t567 t568 t569) else (some false)) = some r := H
    have A51 := Aside0.mk A510
    clear A510
    by_cases c52 : t574 = 0
    ·
     rw [if_pos c52] at H
     have c52b0 : (t574 == 0) = true := beq_iff_eq.mpr c52
     have c52b1 : (t574 != 0) = false := bne_eq_false_iff_eq.mpr c52
     clear c52
     have H' := Aside0.mk H
     clear H
     have hnb53 := NB555_556.out
     have hnc53 := NB556_555.out
     have hcz54_0 : wc.cell? ⟨gb555, 0, none⟩ = some (.int .i64 a0_0) := (blk_cell BK555.out 0).trans rfl
     have hcz54_1 : wc.cell? ⟨gb555, 1, none⟩ = some (.int .i64 a0_1) := (blk_cell BK555.out 1).trans rfl
     have hcz54_2 : wc.cell? ⟨gb555, 2, none⟩ = some (.int .i64 a0_2) := (blk_cell BK555.out 2).trans rfl
     have hcz54_3 : wc.cell? ⟨gb555, 3, none⟩ = some (.int .i64 a0_3) := (blk_cell BK555.out 3).trans rfl
     have hcz54_4 : wc.cell? ⟨gb555, 4, none⟩ = some (.int .i64 a0_4) := (blk_cell BK555.out 4).trans rfl
     have hcz54_5 : wc.cell? ⟨gb555, 5, none⟩ = some (.int .i64 a0_5) := (blk_cell BK555.out 5).trans rfl
     have hcz54_6 : wc.cell? ⟨gb555, 6, none⟩ = some (.int .i64 a0_6) := (blk_cell BK555.out 6).trans rfl
     have hcz54_7 : wc.cell? ⟨gb555, 7, none⟩ = some (.int .i64 a0_7) := (blk_cell BK555.out 7).trans rfl
     have hfz54_0 := blk_frozen BK555.out 0
     have hfz54_1 := blk_frozen BK555.out 1
     have hfz54_2 := blk_frozen BK555.out 2
     have hfz54_3 := blk_frozen BK555.out 3
     have hfz54_4 := blk_frozen BK555.out 4
     have hfz54_5 := blk_frozen BK555.out 5
     have hfz54_6 := blk_frozen BK555.out 6
     have hfz54_7 := blk_frozen BK555.out 7
     go_wp2_with (first | ((with_reducible refine gate_callee (f := 23) rfl ?_); refine goesL_ (some 48) rfl rfl Try.func23 (by kernel_rfl) rfl #[.agg #[.int .i64 a0_0, .int .i64 a0_1, .int .i64 a0_2, .int .i64 a0_3, .int .i64 a0_4, .int .i64 a0_5, .int .i64 a0_6, .int .i64 a0_7, .slice none 0 0], .agg #[.int .i64 11, .string (⟨#[]⟩ : ByteArray), .string (⟨#[]⟩ : ByteArray), .string (⟨#[]⟩ : ByteArray), .int .i64 0, .int .i64 0, .int .i64 0, .int .i64 0, .bool false, .slice none 0 0, .slice none 0 0]] rfl (by (try simp only [List.map_toArray, List.map_cons, List.map_nil]); first | done | rfl | (simp only [List.length_drop, List.length_take]; rfl)) ?_; (refine (rate_Push.calls kj3 a0_0 a0_1 a0_2 a0_3 a0_4 a0_5 a0_6 a0_7 (fun k_ => False) _ _ ([] : List (S41)) 11 (⟨#[]⟩ : ByteArray) (⟨#[]⟩ : ByteArray) (⟨#[]⟩ : ByteArray) 0 0 0 0 false (fun k_ => False) _ _ ([] : List (S69)) (fun k_ => False) _ _ ([] : List Int) t561 t562 t563 t564 t565 t566 t567 t568 t569 t572 _ ?side1 ?side2 ?side3 A50.out).mono ?_); (case side1 => exact Kd.V_nil _ _ _ _ _); (case side2 => exact Kd.V_nil _ _ _ _ _); (case side3 => exact Kd.V_nil _ _ _ _ _); rintro e w55 ⟨v570, rfl, ho0, hb⟩; refine ⟨_, rfl, ?_⟩; have n0_ := Aside0.mk (Kd.V_lower (Kd.V_mono (ok' := fun k_ => k_ ≠ gb555 ∧ k_ ≠ gb556) ho0 (fun k_ hk_ => ⟨Or.elim hk_ (fun hs_ => Or.elim hs_ (fun hs_ => (hs_).elim) (fun hs_ => Or.elim hs_ (fun hs_ => (hs_).elim) (fun hs_ => (hs_).elim))) (fun hn_ => (Kd.freshB (g := gb555) (o := .cells #[.int .i64 a0_0, .int .i64 a0_1, .int .i64 a0_2, .int .i64 a0_3, .int .i64 a0_4, .int .i64 a0_5, .int .i64 a0_6, .int .i64 a0_7] 23 (0, 0)) (by (with_reducible repeat (first | refine blk_drewN ?_ _ | refine blk_drew ?_ | refine blk_alloc ?_ _)); exact BK555.out) k_ hn_)), Or.elim hk_ (fun hs_ => Or.elim hs_ (fun hs_ => (hs_).elim) (fun hs_ => Or.elim hs_ (fun hs_ => (hs_).elim) (fun hs_ => (hs_).elim))) (fun hn_ => (Kd.freshB (g := gb556) (o := .cells #[.int .i64 a1_0, .string a1_1, .string a1_2, .string a1_3, .int .i64 a1_4, .int .i64 a1_5, .int .i64 a1_6, .int .i64 a1_7, .bool a1_8, .slice A1_9 l1_9.length c1_9, .slice A1_10 l1_10.length c1_10] 41 (0, 0)) (by (with_reducible repeat (first | refine blk_drewN ?_ _ | refine blk_drew ?_ | refine blk_alloc ?_ _)); exact BK556.out) k_ hn_))⟩)) (below_size (by repeat (first | (with_reducible first | exact HB.out | apply below_alloc | apply pw_below_drewN | apply below_drew1 | refine below_set ?_ GE555.out | refine below_set ?_ GE556.out) | exact HB.out)))); have n1_ := Aside0.mk (blk_below (g := gb555) (o := .cells #[.int .i64 a0_0, .int .i64 a0_1, .int .i64 a0_2, .int .i64 a0_3, .int .i64 a0_4, .int .i64 a0_5, .int .i64 a0_6, .int .i64 a0_7] 23 (0, 0)) (by (with_reducible repeat (first | refine blk_drewN ?_ _ | refine blk_drew ?_ | refine blk_alloc ?_ _)); exact BK555.out) hb); have n2_ := Aside0.mk (blk_below (g := gb556) (o := .cells #[.int .i64 a1_0, .string a1_1, .string a1_2, .string a1_3, .int .i64 a1_4, .int .i64 a1_5, .int .i64 a1_6, .int .i64 a1_7, .bool a1_8, .slice A1_9 l1_9.length c1_9, .slice A1_10 l1_10.length c1_10] 41 (0, 0)) (by (with_reducible repeat (first | refine blk_drewN ?_ _ | refine blk_drew ?_ | refine blk_alloc ?_ _)); exact BK556.out) hb); have n3_ := Aside0.mk (below_step (by repeat (first | (with_reducible first | exact HB.out | apply below_alloc | apply pw_below_drewN | apply below_drew1 | refine below_set ?_ GE555.out | refine below_set ?_ GE556.out) | exact HB.out)) hb); clear BK555; clear BK556; clear HB; have HO571 := n0_; have BK555 := n1_; have BK556 := n2_; have HB := n3_; clear n0_ n1_ n2_ n3_; (try clear hb); (try clear hb2); (try clear hk); (try clear hi); (try clear ho0)) | ((with_reducible refine gate_dst (N := 7) rfl ?_); (try (refine gate_guard (by rfl) ?_; dsimp only)); refine box_event ?hg (N := 7) ?hd (cs := #[.int .i64 0, .int .i64 0, .int .i64 0, .int .i64 0, .int .i64 0, .int .i64 0, .int .i64 0, .int .i64 0, .slice none 0 0]) (t := 36) ?hr ?_; (case hd => rfl); (case hg => rfl); (case hr => first | (go_simp; done) | (go_simp; rfl)); intro gb573 hg w56 hbox hb; have n0_ := Aside0.mk (Kd.V_below (Kd.V_elderB (by (with_reducible repeat (first | apply Kd.V_alloc | apply Kd.V_drewN | apply Kd.V_drew)); exact HO571.out) gb573 (Nat.le_of_eq hg.symm)) hb); have n1_ := Aside0.mk (blk_below (g := gb555) (o := .cells #[.int .i64 a0_0, .int .i64 a0_1, .int .i64 a0_2, .int .i64 a0_3, .int .i64 a0_4, .int .i64 a0_5, .int .i64 a0_6, .int .i64 a0_7] 23 (0, 0)) (by (with_reducible repeat (first | refine blk_drewN ?_ _ | refine blk_drew ?_ | refine blk_alloc ?_ _)); exact BK555.out) hb); have n2_ := Aside0.mk (blk_below (g := gb556) (o := .cells #[.int .i64 a1_0, .string a1_1, .string a1_2, .string a1_3, .int .i64 a1_4, .int .i64 a1_5, .int .i64 a1_6, .int .i64 a1_7, .bool a1_8, .slice A1_9 l1_9.length c1_9, .slice A1_10 l1_10.length c1_10] 41 (0, 0)) (by (with_reducible repeat (first | refine blk_drewN ?_ _ | refine blk_drew ?_ | refine blk_alloc ?_ _)); exact BK556.out) hb); have n3_ := Aside0.mk (below_step (by repeat (first | (with_reducible first | exact HB.out | apply below_alloc | apply pw_below_drewN | apply below_drew1 | refine below_set ?_ GE555.out | refine below_set ?_ GE556.out) | exact HB.out)) hb); have n4_ := Aside0.mk (hbox); have n5_ := Aside0.mk ((by rw [hg]; exact (below_size (by repeat (first | (with_reducible first | exact HB.out | apply below_alloc | apply pw_below_drewN | apply below_drew1 | refine below_set ?_ GE555.out | refine below_set ?_ GE556.out) | exact HB.out))) : w.heap.size ≤ gb573)); have n6_ := Aside0.mk ((by rw [hg]; exact (below_size (by repeat (first | (with_reducible first | exact HB.out | apply below_alloc | apply pw_below_drewN | apply below_drew1 | refine below_set ?_ GE555.out | refine below_set ?_ GE556.out) | exact HB.out))) : w.heap.size ≤ gb573)); have n7_ := Aside0.mk ((by rw [hg]; exact Nat.ne_of_lt (blk_lt (g := gb555) (o := .cells #[.int .i64 a0_0, .int .i64 a0_1, .int .i64 a0_2, .int .i64 a0_3, .int .i64 a0_4, .int .i64 a0_5, .int .i64 a0_6, .int .i64 a0_7] 23 (0, 0)) (by (with_reducible repeat (first | refine blk_drewN ?_ _ | refine blk_drew ?_ | refine blk_alloc ?_ _)); exact BK555.out)) : gb555 ≠ gb573)); have n8_ := Aside0.mk ((by rw [hg]; exact Nat.ne_of_gt (blk_lt (g := gb555) (o := .cells #[.int .i64 a0_0, .int .i64 a0_1, .int .i64 a0_2, .int .i64 a0_3, .int .i64 a0_4, .int .i64 a0_5, .int .i64 a0_6, .int .i64 a0_7] 23 (0, 0)) (by (with_reducible repeat (first | refine blk_drewN ?_ _ | refine blk_drew ?_ | refine blk_alloc ?_ _)); exact BK555.out)) : gb573 ≠ gb555)); have n9_ := Aside0.mk ((by rw [hg]; exact Nat.ne_of_lt (blk_lt (g := gb556) (o := .cells #[.int .i64 a1_0, .string a1_1, .string a1_2, .string a1_3, .int .i64 a1_4, .int .i64 a1_5, .int .i64 a1_6, .int .i64 a1_7, .bool a1_8, .slice A1_9 l1_9.length c1_9, .slice A1_10 l1_10.length c1_10] 41 (0, 0)) (by (with_reducible repeat (first | refine blk_drewN ?_ _ | refine blk_drew ?_ | refine blk_alloc ?_ _)); exact BK556.out)) : gb556 ≠ gb573)); have n10_ := Aside0.mk ((by rw [hg]; exact Nat.ne_of_gt (blk_lt (g := gb556) (o := .cells #[.int .i64 a1_0, .string a1_1, .string a1_2, .string a1_3, .int .i64 a1_4, .int .i64 a1_5, .int .i64 a1_6, .int .i64 a1_7, .bool a1_8, .slice A1_9 l1_9.length c1_9, .slice A1_10 l1_10.length c1_10] 41 (0, 0)) (by (with_reducible repeat (first | refine blk_drewN ?_ _ | refine blk_drew ?_ | refine blk_alloc ?_ _)); exact BK556.out)) : gb573 ≠ gb556)); clear HO571; clear BK555; clear BK556; clear HB; have HO571 := n0_; have BK555 := n1_; have BK556 := n2_; have HB := n3_; have BK573 := n4_; have GW573 := n5_; have GE573 := n6_; have NB555_573 := n7_; have NB573_555 := n8_; have NB556_573 := n9_; have NB573_556 := n10_; clear n0_ n1_ n2_ n3_ n4_ n5_ n6_ n7_ n8_ n9_ n10_; clear hb hbox hg; have hnb57 := NB573_555.out; have hnc57 := NB555_573.out; have hnb58 := NB573_556.out; have hnc58 := NB556_573.out; have hcz59_0 : w56.cell? ⟨gb573, 0, none⟩ = some (.int .i64 0) := (blk_cell BK573.out 0).trans rfl; have hcz59_1 : w56.cell? ⟨gb573, 1, none⟩ = some (.int .i64 0) := (blk_cell BK573.out 1).trans rfl; have hcz59_2 : w56.cell? ⟨gb573, 2, none⟩ = some (.int .i64 0) := (blk_cell BK573.out 2).trans rfl; have hcz59_3 : w56.cell? ⟨gb573, 3, none⟩ = some (.int .i64 0) := (blk_cell BK573.out 3).trans rfl; have hcz59_4 : w56.cell? ⟨gb573, 4, none⟩ = some (.int .i64 0) := (blk_cell BK573.out 4).trans rfl; have hcz59_5 : w56.cell? ⟨gb573, 5, none⟩ = some (.int .i64 0) := (blk_cell BK573.out 5).trans rfl; have hcz59_6 : w56.cell? ⟨gb573, 6, none⟩ = some (.int .i64 0) := (blk_cell BK573.out 6).trans rfl; have hcz59_7 : w56.cell? ⟨gb573, 7, none⟩ = some (.int .i64 0) := (blk_cell BK573.out 7).trans rfl; have hcz59_8 : w56.cell? ⟨gb573, 8, none⟩ = some (.slice none 0 0) := (blk_cell BK573.out 8).trans rfl; have hfz59_0 := blk_frozen BK573.out 0; have hfz59_1 := blk_frozen BK573.out 1; have hfz59_2 := blk_frozen BK573.out 2; have hfz59_3 := blk_frozen BK573.out 3; have hfz59_4 := blk_frozen BK573.out 4; have hfz59_5 := blk_frozen BK573.out 5; have hfz59_6 := blk_frozen BK573.out 6; have hfz59_7 := blk_frozen BK573.out 7; have hfz59_8 := blk_frozen BK573.out 8; obtain ⟨Ao60, co60, eo60⟩ := Kd.V_slice HO571.out; subst eo60) | ((with_reducible refine gate_callee (f := 9) rfl ?_); refine goesL_ (some 52) rfl rfl Try.func9 (by kernel_rfl) rfl #[.int .i64 t572] rfl (by (try simp only [List.map_toArray, List.map_cons, List.map_nil]); first | done | rfl | (simp only [List.length_drop, List.length_take]; rfl)) ?_; (with_reducible refine (wharflaw19_num.calls t572 t574 _ A51.out).mono ?_); rintro e w' ⟨rfl, ⟨nd, rfl⟩⟩; refine ⟨_, rfl, ?_⟩))
     go_loopg [9] kj3 (fun kq v9 w' => ∃ (x9_2 : Int) (x574000_2 : Int) (x574001_2 : Int) (x574002_2 : Int) (x574003_2 : Int) (x574004_2 : Int) (x574005_2 : Int) (x574006_2 : Int) (x574007_2 : Int) (x574008_2 : List (S41)) (u574008 : Value), v9 = .int .i64 x9_2 ∧ Aside0 (wharflaw19_RateFull.l0 kq a2 x9_2 a1_0 a1_1 a1_2 a1_3 a1_4 a1_5 a1_6 a1_7 a1_8 l1_9 l1_10 x574000_2 x574001_2 x574002_2 x574003_2 x574004_2 x574005_2 x574006_2 x574007_2 x574008_2 = some r) ∧ Aside0 (kq ≤ kj3) ∧ Aside0 (Kd.V k41 41 w' w.heap.size (fun k_ => k_ ≠ gb555 ∧ k_ ≠ gb556 ∧ k_ ≠ gb573) u574008 x574008_2) ∧ Aside0 (w'.heap[gb555]? = some (.cells #[.int .i64 a0_0, .int .i64 a0_1, .int .i64 a0_2, .int .i64 a0_3, .int .i64 a0_4, .int .i64 a0_5, .int .i64 a0_6, .int .i64 a0_7] 23 (0, 0))) ∧ Aside0 (w'.heap[gb556]? = some (.cells #[.int .i64 a1_0, .string a1_1, .string a1_2, .string a1_3, .int .i64 a1_4, .int .i64 a1_5, .int .i64 a1_6, .int .i64 a1_7, .bool a1_8, (.slice A1_9 l1_9.length c1_9), (.slice A1_10 l1_10.length c1_10)] 41 (0, 0))) ∧ Aside0 (w'.heap[gb573]? = some (.cells #[.int .i64 x574000_2, .int .i64 x574001_2, .int .i64 x574002_2, .int .i64 x574003_2, .int .i64 x574004_2, .int .i64 x574005_2, .int .i64 x574006_2, .int .i64 x574007_2, u574008] 36 (0, 0))) ∧ Aside0 (Below w.heap.size w w'))
     case atStart => exact ⟨(1), (t561), (t562), (t563), (t564), (t565), (t566), (t567), (t568), (t569), (.slice Ao60 t569.length co60), (by first | rfl | (simp; done) | (simp [*]; done)), H', ⟨Nat.le_refl _⟩, ⟨by (with_reducible repeat (first | apply Kd.V_alloc | apply Kd.V_drewN | apply Kd.V_drew)); have zf820_ := Kd.V_mono HO571.out (fun k_ hk => (⟨hk, hk.2⟩ : _ ∧ k_ ≠ gb573)); exact Kd.V_mono ((V_thru8_ zf820_ (by intro zz_; repeat (first | with_reducible exact zz_ | with_reducible refine Kd.V_far ?_ (by first | exact (fun _ hk => hk.2)) _ | with_reducible refine Kd.V_drewN ?_ _ | with_reducible apply Kd.V_drew | with_reducible apply Kd.V_alloc)))) (fun _ hk => ⟨hk.1.1.1, ⟨hk.1.1.2, hk.1.2⟩⟩)⟩, ⟨by (with_reducible repeat (first | refine blk_drewN ?_ _ | refine blk_drew ?_ | refine blk_alloc ?_ _)); (iterate 9 (refine blk_far ?_ NB555_573.out _; (with_reducible repeat (first | refine blk_drewN ?_ _ | refine blk_drew ?_ | refine blk_alloc ?_ _)))); exact BK555.out⟩, ⟨by (with_reducible repeat (first | refine blk_drewN ?_ _ | refine blk_drew ?_ | refine blk_alloc ?_ _)); (iterate 9 (refine blk_far ?_ NB556_573.out _; (with_reducible repeat (first | refine blk_drewN ?_ _ | refine blk_drew ?_ | refine blk_alloc ?_ _)))); exact BK556.out⟩, ⟨by (with_reducible repeat (first | refine blk_drewN ?_ _ | refine blk_drew ?_ | refine blk_alloc ?_ _)); refine blk_put (cs := #[.int .i64 t561, .int .i64 t562, .int .i64 t563, .int .i64 t564, .int .i64 t565, .int .i64 t566, .int .i64 t567, .int .i64 t568, .slice none 0 0]) ?_ 8 _ rfl; (with_reducible repeat (first | refine blk_drewN ?_ _ | refine blk_drew ?_ | refine blk_alloc ?_ _)); refine blk_put (cs := #[.int .i64 t561, .int .i64 t562, .int .i64 t563, .int .i64 t564, .int .i64 t565, .int .i64 t566, .int .i64 t567, .int .i64 0, .slice none 0 0]) ?_ 7 _ rfl; (with_reducible repeat (first | refine blk_drewN ?_ _ | refine blk_drew ?_ | refine blk_alloc ?_ _)); refine blk_put (cs := #[.int .i64 t561, .int .i64 t562, .int .i64 t563, .int .i64 t564, .int .i64 t565, .int .i64 t566, .int .i64 0, .int .i64 0, .slice none 0 0]) ?_ 6 _ rfl; (with_reducible repeat (first | refine blk_drewN ?_ _ | refine blk_drew ?_ | refine blk_alloc ?_ _)); refine blk_put (cs := #[.int .i64 t561, .int .i64 t562, .int .i64 t563, .int .i64 t564, .int .i64 t565, .int .i64 0, .int .i64 0, .int .i64 0, .slice none 0 0]) ?_ 5 _ rfl; (with_reducible repeat (first | refine blk_drewN ?_ _ | refine blk_drew ?_ | refine blk_alloc ?_ _)); refine blk_put (cs := #[.int .i64 t561, .int .i64 t562, .int .i64 t563, .int .i64 t564, .int .i64 0, .int .i64 0, .int .i64 0, .int .i64 0, .slice none 0 0]) ?_ 4 _ rfl; (with_reducible repeat (first | refine blk_drewN ?_ _ | refine blk_drew ?_ | refine blk_alloc ?_ _)); refine blk_put (cs := #[.int .i64 t561, .int .i64 t562, .int .i64 t563, .int .i64 0, .int .i64 0, .int .i64 0, .int .i64 0, .int .i64 0, .slice none 0 0]) ?_ 3 _ rfl; (with_reducible repeat (first | refine blk_drewN ?_ _ | refine blk_drew ?_ | refine blk_alloc ?_ _)); refine blk_put (cs := #[.int .i64 t561, .int .i64 t562, .int .i64 0, .int .i64 0, .int .i64 0, .int .i64 0, .int .i64 0, .int .i64 0, .slice none 0 0]) ?_ 2 _ rfl; (with_reducible repeat (first | refine blk_drewN ?_ _ | refine blk_drew ?_ | refine blk_alloc ?_ _)); refine blk_put (cs := #[.int .i64 t561, .int .i64 0, .int .i64 0, .int .i64 0, .int .i64 0, .int .i64 0, .int .i64 0, .int .i64 0, .slice none 0 0]) ?_ 1 _ rfl; (with_reducible repeat (first | refine blk_drewN ?_ _ | refine blk_drew ?_ | refine blk_alloc ?_ _)); refine blk_put (cs := #[.int .i64 0, .int .i64 0, .int .i64 0, .int .i64 0, .int .i64 0, .int .i64 0, .int .i64 0, .int .i64 0, .slice none 0 0]) ?_ 0 _ rfl; (with_reducible repeat (first | refine blk_drewN ?_ _ | refine blk_drew ?_ | refine blk_alloc ?_ _)); exact BK573.out⟩, ⟨by repeat (first | (with_reducible first | exact HB.out | apply below_alloc | apply pw_below_drewN | apply below_drew1 | refine below_set ?_ GE555.out | refine below_set ?_ GE556.out | refine below_set ?_ GE573.out) | exact HB.out)⟩⟩
     case round =>
      clear H'
      try clear c1
      try clear c2
      try clear p2
      try clear c3
      try clear c4
      try clear c5
      try clear c8
      try clear c9
      try clear c9b0
      try clear c9b1
      try clear c10
      try clear c11
      try clear c11b0
      try clear c12
      try clear c13
      try clear c17
      try clear c17b0
      try clear c17b1
      try clear c18
      try clear c23
      try clear c24
      try clear c24b0
      try clear c24b1
      try clear c25
      try clear c31
      try clear c31b0
      try clear c32
      try clear c38
      try clear c44
      try clear c47
      try clear c52
      try clear c52b0
      try clear c52b1
      try clear c53
      try clear c57
      try clear c58
      try clear hcz13_0
      try clear hcz13_1
      try clear hcz13_2
      try clear hcz13_3
      try clear hcz13_4
      try clear hcz13_5
      try clear hcz13_6
      try clear hcz13_7
      try clear hcz15_0
      try clear hcz15_1
      try clear hcz15_10
      try clear hcz15_2
      try clear hcz15_3
      try clear hcz15_4
      try clear hcz15_5
      try clear hcz15_6
      try clear hcz15_7
      try clear hcz15_8
      try clear hcz15_9
      try clear hcz19_0
      try clear hcz19_1
      try clear hcz19_2
      try clear hcz19_3
      try clear hcz19_4
      try clear hcz19_5
      try clear hcz19_6
      try clear hcz19_7
      try clear hcz21_0
      try clear hcz21_1
      try clear hcz21_10
      try clear hcz21_2
      try clear hcz21_3
      try clear hcz21_4
      try clear hcz21_5
      try clear hcz21_6
      try clear hcz21_7
      try clear hcz21_8
      try clear hcz21_9
      try clear hcz23_0
      try clear hcz23_1
      try clear hcz23_10
      try clear hcz23_2
      try clear hcz23_3
      try clear hcz23_4
      try clear hcz23_5
      try clear hcz23_6
      try clear hcz23_7
      try clear hcz23_8
      try clear hcz23_9
      try clear hcz26_0
      try clear hcz26_1
      try clear hcz26_2
      try clear hcz26_3
      try clear hcz26_4
      try clear hcz26_5
      try clear hcz26_6
      try clear hcz26_7
      try clear hcz28_0
      try clear hcz28_1
      try clear hcz28_10
      try clear hcz28_2
      try clear hcz28_3
      try clear hcz28_4
      try clear hcz28_5
      try clear hcz28_6
      try clear hcz28_7
      try clear hcz28_8
      try clear hcz28_9
      try clear hcz30_0
      try clear hcz30_1
      try clear hcz30_10
      try clear hcz30_2
      try clear hcz30_3
      try clear hcz30_4
      try clear hcz30_5
      try clear hcz30_6
      try clear hcz30_7
      try clear hcz30_8
      try clear hcz30_9
      try clear hcz33_0
      try clear hcz33_1
      try clear hcz33_2
      try clear hcz33_3
      try clear hcz33_4
      try clear hcz33_5
      try clear hcz33_6
      try clear hcz33_7
      try clear hcz35_0
      try clear hcz35_1
      try clear hcz35_10
      try clear hcz35_2
      try clear hcz35_3
      try clear hcz35_4
      try clear hcz35_5
      try clear hcz35_6
      try clear hcz35_7
      try clear hcz35_8
      try clear hcz35_9
      try clear hcz37_0
      try clear hcz37_1
      try clear hcz37_10
      try clear hcz37_2
      try clear hcz37_3
      try clear hcz37_4
      try clear hcz37_5
      try clear hcz37_6
      try clear hcz37_7
      try clear hcz37_8
      try clear hcz37_9
      try clear hcz39_0
      try clear hcz39_1
      try clear hcz39_2
      try clear hcz39_3
      try clear hcz39_4
      try clear hcz39_5
      try clear hcz39_6
      try clear hcz39_7
      try clear hcz41_0
      try clear hcz41_1
      try clear hcz41_10
      try clear hcz41_2
      try clear hcz41_3
      try clear hcz41_4
      try clear hcz41_5
      try clear hcz41_6
      try clear hcz41_7
      try clear hcz41_8
      try clear hcz41_9
      try clear hcz43_0
      try clear hcz43_1
      try clear hcz43_10
      try clear hcz43_2
      try clear hcz43_3
      try clear hcz43_4
      try clear hcz43_5
      try clear hcz43_6
      try clear hcz43_7
      try clear hcz43_8
      try clear hcz43_9
      try clear hcz45_0
      try clear hcz45_1
      try clear hcz45_2
      try clear hcz45_3
      try clear hcz45_4
      try clear hcz45_5
      try clear hcz45_6
      try clear hcz45_7
      try clear hcz54_0
      try clear hcz54_1
      try clear hcz54_2
      try clear hcz54_3
      try clear hcz54_4
      try clear hcz54_5
      try clear hcz54_6
      try clear hcz54_7
      try clear hcz59_0
      try clear hcz59_1
      try clear hcz59_2
      try clear hcz59_3
      try clear hcz59_4
      try clear hcz59_5
      try clear hcz59_6
      try clear hcz59_7
      try clear hcz59_8
      try clear hfz13_0
      try clear hfz13_1
      try clear hfz13_2
      try clear hfz13_3
      try clear hfz13_4
      try clear hfz13_5
      try clear hfz13_6
      try clear hfz13_7
      try clear hfz15_0
      try clear hfz15_1
      try clear hfz15_10
      try clear hfz15_2
      try clear hfz15_3
      try clear hfz15_4
      try clear hfz15_5
      try clear hfz15_6
      try clear hfz15_7
      try clear hfz15_8
      try clear hfz15_9
      try clear hfz19_0
      try clear hfz19_1
      try clear hfz19_2
      try clear hfz19_3
      try clear hfz19_4
      try clear hfz19_5
      try clear hfz19_6
      try clear hfz19_7
      try clear hfz21_0
      try clear hfz21_1
      try clear hfz21_10
      try clear hfz21_2
      try clear hfz21_3
      try clear hfz21_4
      try clear hfz21_5
      try clear hfz21_6
      try clear hfz21_7
      try clear hfz21_8
      try clear hfz21_9
      try clear hfz23_0
      try clear hfz23_1
      try clear hfz23_10
      try clear hfz23_2
      try clear hfz23_3
      try clear hfz23_4
      try clear hfz23_5
      try clear hfz23_6
      try clear hfz23_7
      try clear hfz23_8
      try clear hfz23_9
      try clear hfz26_0
      try clear hfz26_1
      try clear hfz26_2
      try clear hfz26_3
      try clear hfz26_4
      try clear hfz26_5
      try clear hfz26_6
      try clear hfz26_7
      try clear hfz28_0
      try clear hfz28_1
      try clear hfz28_10
      try clear hfz28_2
      try clear hfz28_3
      try clear hfz28_4
      try clear hfz28_5
      try clear hfz28_6
      try clear hfz28_7
      try clear hfz28_8
      try clear hfz28_9
      try clear hfz30_0
      try clear hfz30_1
      try clear hfz30_10
      try clear hfz30_2
      try clear hfz30_3
      try clear hfz30_4
      try clear hfz30_5
      try clear hfz30_6
      try clear hfz30_7
      try clear hfz30_8
      try clear hfz30_9
      try clear hfz33_0
      try clear hfz33_1
      try clear hfz33_2
      try clear hfz33_3
      try clear hfz33_4
      try clear hfz33_5
      try clear hfz33_6
      try clear hfz33_7
      try clear hfz35_0
      try clear hfz35_1
      try clear hfz35_10
      try clear hfz35_2
      try clear hfz35_3
      try clear hfz35_4
      try clear hfz35_5
      try clear hfz35_6
      try clear hfz35_7
      try clear hfz35_8
      try clear hfz35_9
      try clear hfz37_0
      try clear hfz37_1
      try clear hfz37_10
      try clear hfz37_2
      try clear hfz37_3
      try clear hfz37_4
      try clear hfz37_5
      try clear hfz37_6
      try clear hfz37_7
      try clear hfz37_8
      try clear hfz37_9
      try clear hfz39_0
      try clear hfz39_1
      try clear hfz39_2
      try clear hfz39_3
      try clear hfz39_4
      try clear hfz39_5
      try clear hfz39_6
      try clear hfz39_7
      try clear hfz41_0
      try clear hfz41_1
      try clear hfz41_10
      try clear hfz41_2
      try clear hfz41_3
      try clear hfz41_4
      try clear hfz41_5
      try clear hfz41_6
      try clear hfz41_7
      try clear hfz41_8
      try clear hfz41_9
      try clear hfz43_0
      try clear hfz43_1
      try clear hfz43_10
      try clear hfz43_2
      try clear hfz43_3
      try clear hfz43_4
      try clear hfz43_5
      try clear hfz43_6
      try clear hfz43_7
      try clear hfz43_8
      try clear hfz43_9
      try clear hfz45_0
      try clear hfz45_1
      try clear hfz45_2
      try clear hfz45_3
      try clear hfz45_4
      try clear hfz45_5
      try clear hfz45_6
      try clear hfz45_7
      try clear hfz54_0
      try clear hfz54_1
      try clear hfz54_2
      try clear hfz54_3
      try clear hfz54_4
      try clear hfz54_5
      try clear hfz54_6
      try clear hfz54_7
      try clear hfz59_0
      try clear hfz59_1
      try clear hfz59_2
      try clear hfz59_3
      try clear hfz59_4
      try clear hfz59_5
      try clear hfz59_6
      try clear hfz59_7
      try clear hfz59_8
      try clear p2
      obtain ⟨x9_2, x574000_2, x574001_2, x574002_2, x574003_2, x574004_2, x574005_2, x574006_2, x574007_2, x574008_2, u574008, rfl, HA, HK2, HO_574008, BK555, BK556, BK573, HB⟩ := hrel
      cases gk with
      | zero => exact absurd HA.out (by simp [wharflaw19_RateFull.l0])
      | succ k2 =>
       have H := HA.out
       clear HA
       simp only [wharflaw19_RateFull.l0] at H
       by_cases c61 : x9_2 < 16
       ·
        rw [if_pos c61] at H
        have c61b0 : decide (x9_2 < 16) = true := decide_eq_true c61
        clear c61
        replace H := Option.bind_eq_some_iff.mp H
        obtain ⟨⟨t575, t576, t577, t578, t579, t580, t581, t582, t583, t586⟩, A620, H⟩ := H
        replace H : ((wharflaw19_num.f t586).bind fun t588 => (if t588 = 0 then (wharflaw19_RateFull.l0 k2 a2 (wrap64 (x9_2 + 1)) a1_0 a1_1 a1_2 a1_3 a1_4 a1_5 a1_6 a1_7 a1_8 l1_9 l1_10 t575 t576 t577 t578 t579 t580 t581 t582 t583) else (some false))) = some r := H
        have A62 := Aside0.mk A620
        clear A620
        replace H := Option.bind_eq_some_iff.mp H
        obtain ⟨t588, A630, H⟩ := H
        replace H : (if t588 = 0 then (wharflaw19_RateFull.l0 k2 a2 (wrap64 (x9_2 + 1)) a1_0 a1_1 a1_2 a1_3 a1_4 a1_5 a1_6 a1_7 a1_8 l1_9 l1_10 t575 t576 t577 t578 t579 t580 t581 t582 t583) else (some false)) = some r := H
        have A63 := Aside0.mk A630
        clear A630
        by_cases c64 : t588 = 0
        ·
         rw [if_pos c64] at H
         have c64b0 : (t588 == 0) = true := beq_iff_eq.mpr c64
         have c64b1 : (t588 != 0) = false := bne_eq_false_iff_eq.mpr c64
         clear c64
         have H' := Aside0.mk H
         clear H
         have hnb65 := NB573_555.out
         have hnc65 := NB555_573.out
         have hnb66 := NB573_556.out
         have hnc66 := NB556_573.out
         have hcz67_0 : wr.cell? ⟨gb573, 0, none⟩ = some (.int .i64 x574000_2) := (blk_cell BK573.out 0).trans rfl
         have hcz67_1 : wr.cell? ⟨gb573, 1, none⟩ = some (.int .i64 x574001_2) := (blk_cell BK573.out 1).trans rfl
         have hcz67_2 : wr.cell? ⟨gb573, 2, none⟩ = some (.int .i64 x574002_2) := (blk_cell BK573.out 2).trans rfl
         have hcz67_3 : wr.cell? ⟨gb573, 3, none⟩ = some (.int .i64 x574003_2) := (blk_cell BK573.out 3).trans rfl
         have hcz67_4 : wr.cell? ⟨gb573, 4, none⟩ = some (.int .i64 x574004_2) := (blk_cell BK573.out 4).trans rfl
         have hcz67_5 : wr.cell? ⟨gb573, 5, none⟩ = some (.int .i64 x574005_2) := (blk_cell BK573.out 5).trans rfl
         have hcz67_6 : wr.cell? ⟨gb573, 6, none⟩ = some (.int .i64 x574006_2) := (blk_cell BK573.out 6).trans rfl
         have hcz67_7 : wr.cell? ⟨gb573, 7, none⟩ = some (.int .i64 x574007_2) := (blk_cell BK573.out 7).trans rfl
         have hcz67_8 : wr.cell? ⟨gb573, 8, none⟩ = some (u574008) := (blk_cell BK573.out 8).trans rfl
         have hfz67_0 := blk_frozen BK573.out 0
         have hfz67_1 := blk_frozen BK573.out 1
         have hfz67_2 := blk_frozen BK573.out 2
         have hfz67_3 := blk_frozen BK573.out 3
         have hfz67_4 := blk_frozen BK573.out 4
         have hfz67_5 := blk_frozen BK573.out 5
         have hfz67_6 := blk_frozen BK573.out 6
         have hfz67_7 := blk_frozen BK573.out 7
         have hfz67_8 := blk_frozen BK573.out 8
         have hnb68 := NB556_555.out
         have hnc68 := NB555_556.out
         have hcz69_0 : wr.cell? ⟨gb556, 0, none⟩ = some (.int .i64 a1_0) := (blk_cell BK556.out 0).trans rfl
         have hcz69_1 : wr.cell? ⟨gb556, 1, none⟩ = some (.string a1_1) := (blk_cell BK556.out 1).trans rfl
         have hcz69_2 : wr.cell? ⟨gb556, 2, none⟩ = some (.string a1_2) := (blk_cell BK556.out 2).trans rfl
         have hcz69_3 : wr.cell? ⟨gb556, 3, none⟩ = some (.string a1_3) := (blk_cell BK556.out 3).trans rfl
         have hcz69_4 : wr.cell? ⟨gb556, 4, none⟩ = some (.int .i64 a1_4) := (blk_cell BK556.out 4).trans rfl
         have hcz69_5 : wr.cell? ⟨gb556, 5, none⟩ = some (.int .i64 a1_5) := (blk_cell BK556.out 5).trans rfl
         have hcz69_6 : wr.cell? ⟨gb556, 6, none⟩ = some (.int .i64 a1_6) := (blk_cell BK556.out 6).trans rfl
         have hcz69_7 : wr.cell? ⟨gb556, 7, none⟩ = some (.int .i64 a1_7) := (blk_cell BK556.out 7).trans rfl
         have hcz69_8 : wr.cell? ⟨gb556, 8, none⟩ = some (.bool a1_8) := (blk_cell BK556.out 8).trans rfl
         have hcz69_9 : wr.cell? ⟨gb556, 9, none⟩ = some (.slice A1_9 l1_9.length c1_9) := (blk_cell BK556.out 9).trans rfl
         have hcz69_10 : wr.cell? ⟨gb556, 10, none⟩ = some (.slice A1_10 l1_10.length c1_10) := (blk_cell BK556.out 10).trans rfl
         have hfz69_0 := blk_frozen BK556.out 0
         have hfz69_1 := blk_frozen BK556.out 1
         have hfz69_2 := blk_frozen BK556.out 2
         have hfz69_3 := blk_frozen BK556.out 3
         have hfz69_4 := blk_frozen BK556.out 4
         have hfz69_5 := blk_frozen BK556.out 5
         have hfz69_6 := blk_frozen BK556.out 6
         have hfz69_7 := blk_frozen BK556.out 7
         have hfz69_8 := blk_frozen BK556.out 8
         have hfz69_9 := blk_frozen BK556.out 9
         have hfz69_10 := blk_frozen BK556.out 10
         obtain ⟨Ao70, co70, eo70⟩ := Kd.V_slice HO_574008.out
         subst eo70
         go_wp2_with (first | ((with_reducible refine gate_callee (f := 23) rfl ?_); refine goesL_ (some 61) rfl rfl Try.func23 (by kernel_rfl) rfl #[.agg #[.int .i64 x574000_2, .int .i64 x574001_2, .int .i64 x574002_2, .int .i64 x574003_2, .int .i64 x574004_2, .int .i64 x574005_2, .int .i64 x574006_2, .int .i64 x574007_2, .slice Ao70 x574008_2.length co70], .agg #[.int .i64 a1_0, .string a1_1, .string a1_2, .string a1_3, .int .i64 a1_4, .int .i64 a1_5, .int .i64 a1_6, .int .i64 a1_7, .bool a1_8, .slice A1_9 l1_9.length c1_9, .slice A1_10 l1_10.length c1_10]] rfl (by (try simp only [List.map_toArray, List.map_cons, List.map_nil]); first | done | rfl | (simp only [List.length_drop, List.length_take]; rfl)) ?_; (with_reducible refine (rate_Push.calls k2 x574000_2 x574001_2 x574002_2 x574003_2 x574004_2 x574005_2 x574006_2 x574007_2 (fun k_ => (k_ ≠ gb555 ∧ (k_ ≠ gb556 ∧ k_ ≠ gb573))) _ _ x574008_2 a1_0 a1_1 a1_2 a1_3 a1_4 a1_5 a1_6 a1_7 a1_8 (fun k_ => k_ < w.heap.size) _ _ l1_9 (fun k_ => k_ < w.heap.size) _ _ l1_10 t575 t576 t577 t578 t579 t580 t581 t582 t583 t586 _ ?side1 ?side2 ?side3 A62.out).mono ?_); (case side1 => exact HO_574008.out); (case side2 => exact Kd.V_mk HC1_9.out (Kd.F_below (Kd.C_F k69_heap HR1_9.out) (by repeat (first | (with_reducible first | exact HB.out | apply below_alloc | apply pw_below_drewN | apply below_drew1 | refine below_set ?_ GE555.out | refine below_set ?_ GE556.out | refine below_set ?_ GE573.out) | exact HB.out)))); (case side3 => exact Kd.V_mk HC1_10.out (Kd.F_below (Kd.C_F (Kd.heap_int .i64) HR1_10.out) (by repeat (first | (with_reducible first | exact HB.out | apply below_alloc | apply pw_below_drewN | apply below_drew1 | refine below_set ?_ GE555.out | refine below_set ?_ GE556.out | refine below_set ?_ GE573.out) | exact HB.out)))); rintro e w71 ⟨v584, rfl, ho0, hb⟩; refine ⟨_, rfl, ?_⟩; have n0_ := Aside0.mk (Kd.V_below (by (with_reducible repeat (first | apply Kd.V_alloc | apply Kd.V_drewN | apply Kd.V_drew)); exact HO_574008.out) hb); have n1_ := Aside0.mk (Kd.V_lower (Kd.V_mono (ok' := fun k_ => k_ ≠ gb555 ∧ k_ ≠ gb556 ∧ k_ ≠ gb573) ho0 (fun k_ hk_ => ⟨Or.elim hk_ (fun hs_ => Or.elim hs_ (fun hs_ => hs_.1) (fun hs_ => Or.elim hs_ (fun hs_ => fun e_ => Nat.not_le.2 hs_ (by rw [e_]; exact GW555.out)) (fun hs_ => fun e_ => Nat.not_le.2 hs_ (by rw [e_]; exact GW555.out)))) (fun hn_ => (Kd.freshB (g := gb555) (o := .cells #[.int .i64 a0_0, .int .i64 a0_1, .int .i64 a0_2, .int .i64 a0_3, .int .i64 a0_4, .int .i64 a0_5, .int .i64 a0_6, .int .i64 a0_7] 23 (0, 0)) (by (with_reducible repeat (first | refine blk_drewN ?_ _ | refine blk_drew ?_ | refine blk_alloc ?_ _)); exact BK555.out) k_ hn_)), Or.elim hk_ (fun hs_ => Or.elim hs_ (fun hs_ => hs_.2.1) (fun hs_ => Or.elim hs_ (fun hs_ => fun e_ => Nat.not_le.2 hs_ (by rw [e_]; exact GW556.out)) (fun hs_ => fun e_ => Nat.not_le.2 hs_ (by rw [e_]; exact GW556.out)))) (fun hn_ => (Kd.freshB (g := gb556) (o := .cells #[.int .i64 a1_0, .string a1_1, .string a1_2, .string a1_3, .int .i64 a1_4, .int .i64 a1_5, .int .i64 a1_6, .int .i64 a1_7, .bool a1_8, .slice A1_9 l1_9.length c1_9, .slice A1_10 l1_10.length c1_10] 41 (0, 0)) (by (with_reducible repeat (first | refine blk_drewN ?_ _ | refine blk_drew ?_ | refine blk_alloc ?_ _)); exact BK556.out) k_ hn_)), Or.elim hk_ (fun hs_ => Or.elim hs_ (fun hs_ => hs_.2.2) (fun hs_ => Or.elim hs_ (fun hs_ => fun e_ => Nat.not_le.2 hs_ (by rw [e_]; exact GW573.out)) (fun hs_ => fun e_ => Nat.not_le.2 hs_ (by rw [e_]; exact GW573.out)))) (fun hn_ => (Kd.freshB (g := gb573) (o := .cells #[.int .i64 x574000_2, .int .i64 x574001_2, .int .i64 x574002_2, .int .i64 x574003_2, .int .i64 x574004_2, .int .i64 x574005_2, .int .i64 x574006_2, .int .i64 x574007_2, .slice Ao70 x574008_2.length co70] 36 (0, 0)) (by (with_reducible repeat (first | refine blk_drewN ?_ _ | refine blk_drew ?_ | refine blk_alloc ?_ _)); exact BK573.out) k_ hn_))⟩)) (below_size (by repeat (first | (with_reducible first | exact HB.out | apply below_alloc | apply pw_below_drewN | apply below_drew1 | refine below_set ?_ GE555.out | refine below_set ?_ GE556.out | refine below_set ?_ GE573.out) | exact HB.out)))); have n2_ := Aside0.mk (blk_below (g := gb555) (o := .cells #[.int .i64 a0_0, .int .i64 a0_1, .int .i64 a0_2, .int .i64 a0_3, .int .i64 a0_4, .int .i64 a0_5, .int .i64 a0_6, .int .i64 a0_7] 23 (0, 0)) (by (with_reducible repeat (first | refine blk_drewN ?_ _ | refine blk_drew ?_ | refine blk_alloc ?_ _)); exact BK555.out) hb); have n3_ := Aside0.mk (blk_below (g := gb556) (o := .cells #[.int .i64 a1_0, .string a1_1, .string a1_2, .string a1_3, .int .i64 a1_4, .int .i64 a1_5, .int .i64 a1_6, .int .i64 a1_7, .bool a1_8, .slice A1_9 l1_9.length c1_9, .slice A1_10 l1_10.length c1_10] 41 (0, 0)) (by (with_reducible repeat (first | refine blk_drewN ?_ _ | refine blk_drew ?_ | refine blk_alloc ?_ _)); exact BK556.out) hb); have n4_ := Aside0.mk (blk_below (g := gb573) (o := .cells #[.int .i64 x574000_2, .int .i64 x574001_2, .int .i64 x574002_2, .int .i64 x574003_2, .int .i64 x574004_2, .int .i64 x574005_2, .int .i64 x574006_2, .int .i64 x574007_2, .slice Ao70 x574008_2.length co70] 36 (0, 0)) (by (with_reducible repeat (first | refine blk_drewN ?_ _ | refine blk_drew ?_ | refine blk_alloc ?_ _)); exact BK573.out) hb); have n5_ := Aside0.mk (below_step (by repeat (first | (with_reducible first | exact HB.out | apply below_alloc | apply pw_below_drewN | apply below_drew1 | refine below_set ?_ GE555.out | refine below_set ?_ GE556.out | refine below_set ?_ GE573.out) | exact HB.out)) hb); clear HO_574008; clear BK555; clear BK556; clear BK573; clear HB; have HO_574008 := n0_; have HO585 := n1_; have BK555 := n2_; have BK556 := n3_; have BK573 := n4_; have HB := n5_; clear n0_ n1_ n2_ n3_ n4_ n5_; (try clear hb); (try clear hb2); (try clear hk); (try clear hi); (try clear ho0)) | ((with_reducible refine gate_dst (N := 10) rfl ?_); (try (refine gate_guard (by rfl) ?_; dsimp only)); refine box_event ?hg (N := 10) ?hd (cs := #[.int .i64 0, .int .i64 0, .int .i64 0, .int .i64 0, .int .i64 0, .int .i64 0, .int .i64 0, .int .i64 0, .slice none 0 0]) (t := 36) ?hr ?_; (case hd => rfl); (case hg => rfl); (case hr => first | (go_simp; done) | (go_simp; rfl)); intro gb587 hg w72 hbox hb; have n0_ := Aside0.mk (Kd.V_below (Kd.V_elderB (by (with_reducible repeat (first | apply Kd.V_alloc | apply Kd.V_drewN | apply Kd.V_drew)); exact HO_574008.out) gb587 (Nat.le_of_eq hg.symm)) hb); have n1_ := Aside0.mk (Kd.V_below (Kd.V_elderB (by (with_reducible repeat (first | apply Kd.V_alloc | apply Kd.V_drewN | apply Kd.V_drew)); exact HO585.out) gb587 (Nat.le_of_eq hg.symm)) hb); have n2_ := Aside0.mk (blk_below (g := gb555) (o := .cells #[.int .i64 a0_0, .int .i64 a0_1, .int .i64 a0_2, .int .i64 a0_3, .int .i64 a0_4, .int .i64 a0_5, .int .i64 a0_6, .int .i64 a0_7] 23 (0, 0)) (by (with_reducible repeat (first | refine blk_drewN ?_ _ | refine blk_drew ?_ | refine blk_alloc ?_ _)); exact BK555.out) hb); have n3_ := Aside0.mk (blk_below (g := gb556) (o := .cells #[.int .i64 a1_0, .string a1_1, .string a1_2, .string a1_3, .int .i64 a1_4, .int .i64 a1_5, .int .i64 a1_6, .int .i64 a1_7, .bool a1_8, .slice A1_9 l1_9.length c1_9, .slice A1_10 l1_10.length c1_10] 41 (0, 0)) (by (with_reducible repeat (first | refine blk_drewN ?_ _ | refine blk_drew ?_ | refine blk_alloc ?_ _)); exact BK556.out) hb); have n4_ := Aside0.mk (blk_below (g := gb573) (o := .cells #[.int .i64 x574000_2, .int .i64 x574001_2, .int .i64 x574002_2, .int .i64 x574003_2, .int .i64 x574004_2, .int .i64 x574005_2, .int .i64 x574006_2, .int .i64 x574007_2, .slice Ao70 x574008_2.length co70] 36 (0, 0)) (by (with_reducible repeat (first | refine blk_drewN ?_ _ | refine blk_drew ?_ | refine blk_alloc ?_ _)); exact BK573.out) hb); have n5_ := Aside0.mk (below_step (by repeat (first | (with_reducible first | exact HB.out | apply below_alloc | apply pw_below_drewN | apply below_drew1 | refine below_set ?_ GE555.out | refine below_set ?_ GE556.out | refine below_set ?_ GE573.out) | exact HB.out)) hb); have n6_ := Aside0.mk (hbox); have n7_ := Aside0.mk ((by rw [hg]; exact (below_size (by repeat (first | (with_reducible first | exact HB.out | apply below_alloc | apply pw_below_drewN | apply below_drew1 | refine below_set ?_ GE555.out | refine below_set ?_ GE556.out | refine below_set ?_ GE573.out) | exact HB.out))) : w.heap.size ≤ gb587)); have n8_ := Aside0.mk ((by rw [hg]; exact (below_size (by repeat (first | (with_reducible first | exact HB.out | apply below_alloc | apply pw_below_drewN | apply below_drew1 | refine below_set ?_ GE555.out | refine below_set ?_ GE556.out | refine below_set ?_ GE573.out) | exact HB.out))) : w.heap.size ≤ gb587)); have n9_ := Aside0.mk ((by rw [hg]; exact Nat.ne_of_lt (blk_lt (g := gb555) (o := .cells #[.int .i64 a0_0, .int .i64 a0_1, .int .i64 a0_2, .int .i64 a0_3, .int .i64 a0_4, .int .i64 a0_5, .int .i64 a0_6, .int .i64 a0_7] 23 (0, 0)) (by (with_reducible repeat (first | refine blk_drewN ?_ _ | refine blk_drew ?_ | refine blk_alloc ?_ _)); exact BK555.out)) : gb555 ≠ gb587)); have n10_ := Aside0.mk ((by rw [hg]; exact Nat.ne_of_gt (blk_lt (g := gb555) (o := .cells #[.int .i64 a0_0, .int .i64 a0_1, .int .i64 a0_2, .int .i64 a0_3, .int .i64 a0_4, .int .i64 a0_5, .int .i64 a0_6, .int .i64 a0_7] 23 (0, 0)) (by (with_reducible repeat (first | refine blk_drewN ?_ _ | refine blk_drew ?_ | refine blk_alloc ?_ _)); exact BK555.out)) : gb587 ≠ gb555)); have n11_ := Aside0.mk ((by rw [hg]; exact Nat.ne_of_lt (blk_lt (g := gb556) (o := .cells #[.int .i64 a1_0, .string a1_1, .string a1_2, .string a1_3, .int .i64 a1_4, .int .i64 a1_5, .int .i64 a1_6, .int .i64 a1_7, .bool a1_8, .slice A1_9 l1_9.length c1_9, .slice A1_10 l1_10.length c1_10] 41 (0, 0)) (by (with_reducible repeat (first | refine blk_drewN ?_ _ | refine blk_drew ?_ | refine blk_alloc ?_ _)); exact BK556.out)) : gb556 ≠ gb587)); have n12_ := Aside0.mk ((by rw [hg]; exact Nat.ne_of_gt (blk_lt (g := gb556) (o := .cells #[.int .i64 a1_0, .string a1_1, .string a1_2, .string a1_3, .int .i64 a1_4, .int .i64 a1_5, .int .i64 a1_6, .int .i64 a1_7, .bool a1_8, .slice A1_9 l1_9.length c1_9, .slice A1_10 l1_10.length c1_10] 41 (0, 0)) (by (with_reducible repeat (first | refine blk_drewN ?_ _ | refine blk_drew ?_ | refine blk_alloc ?_ _)); exact BK556.out)) : gb587 ≠ gb556)); have n13_ := Aside0.mk ((by rw [hg]; exact Nat.ne_of_lt (blk_lt (g := gb573) (o := .cells #[.int .i64 x574000_2, .int .i64 x574001_2, .int .i64 x574002_2, .int .i64 x574003_2, .int .i64 x574004_2, .int .i64 x574005_2, .int .i64 x574006_2, .int .i64 x574007_2, .slice Ao70 x574008_2.length co70] 36 (0, 0)) (by (with_reducible repeat (first | refine blk_drewN ?_ _ | refine blk_drew ?_ | refine blk_alloc ?_ _)); exact BK573.out)) : gb573 ≠ gb587)); have n14_ := Aside0.mk ((by rw [hg]; exact Nat.ne_of_gt (blk_lt (g := gb573) (o := .cells #[.int .i64 x574000_2, .int .i64 x574001_2, .int .i64 x574002_2, .int .i64 x574003_2, .int .i64 x574004_2, .int .i64 x574005_2, .int .i64 x574006_2, .int .i64 x574007_2, .slice Ao70 x574008_2.length co70] 36 (0, 0)) (by (with_reducible repeat (first | refine blk_drewN ?_ _ | refine blk_drew ?_ | refine blk_alloc ?_ _)); exact BK573.out)) : gb587 ≠ gb573)); clear HO_574008; clear HO585; clear BK555; clear BK556; clear BK573; clear HB; have HO_574008 := n0_; have HO585 := n1_; have BK555 := n2_; have BK556 := n3_; have BK573 := n4_; have HB := n5_; have BK587 := n6_; have GW587 := n7_; have GE587 := n8_; have NB555_587 := n9_; have NB587_555 := n10_; have NB556_587 := n11_; have NB587_556 := n12_; have NB573_587 := n13_; have NB587_573 := n14_; clear n0_ n1_ n2_ n3_ n4_ n5_ n6_ n7_ n8_ n9_ n10_ n11_ n12_ n13_ n14_; clear hb hbox hg; have hnb73 := NB587_555.out; have hnc73 := NB555_587.out; have hnb74 := NB587_556.out; have hnc74 := NB556_587.out; have hnb75 := NB587_573.out; have hnc75 := NB573_587.out; have hcz76_0 : w72.cell? ⟨gb587, 0, none⟩ = some (.int .i64 0) := (blk_cell BK587.out 0).trans rfl; have hcz76_1 : w72.cell? ⟨gb587, 1, none⟩ = some (.int .i64 0) := (blk_cell BK587.out 1).trans rfl; have hcz76_2 : w72.cell? ⟨gb587, 2, none⟩ = some (.int .i64 0) := (blk_cell BK587.out 2).trans rfl; have hcz76_3 : w72.cell? ⟨gb587, 3, none⟩ = some (.int .i64 0) := (blk_cell BK587.out 3).trans rfl; have hcz76_4 : w72.cell? ⟨gb587, 4, none⟩ = some (.int .i64 0) := (blk_cell BK587.out 4).trans rfl; have hcz76_5 : w72.cell? ⟨gb587, 5, none⟩ = some (.int .i64 0) := (blk_cell BK587.out 5).trans rfl; have hcz76_6 : w72.cell? ⟨gb587, 6, none⟩ = some (.int .i64 0) := (blk_cell BK587.out 6).trans rfl; have hcz76_7 : w72.cell? ⟨gb587, 7, none⟩ = some (.int .i64 0) := (blk_cell BK587.out 7).trans rfl; have hcz76_8 : w72.cell? ⟨gb587, 8, none⟩ = some (.slice none 0 0) := (blk_cell BK587.out 8).trans rfl; have hfz76_0 := blk_frozen BK587.out 0; have hfz76_1 := blk_frozen BK587.out 1; have hfz76_2 := blk_frozen BK587.out 2; have hfz76_3 := blk_frozen BK587.out 3; have hfz76_4 := blk_frozen BK587.out 4; have hfz76_5 := blk_frozen BK587.out 5; have hfz76_6 := blk_frozen BK587.out 6; have hfz76_7 := blk_frozen BK587.out 7; have hfz76_8 := blk_frozen BK587.out 8; obtain ⟨Ao77, co77, eo77⟩ := Kd.V_slice HO585.out; subst eo77) | ((with_reducible refine gate_callee (f := 9) rfl ?_); refine goesL_ (some 65) rfl rfl Try.func9 (by kernel_rfl) rfl #[.int .i64 t586] rfl (by (try simp only [List.map_toArray, List.map_cons, List.map_nil]); first | done | rfl | (simp only [List.length_drop, List.length_take]; rfl)) ?_; (with_reducible refine (wharflaw19_num.calls t586 t588 _ A63.out).mono ?_); rintro e w' ⟨rfl, ⟨nd, rfl⟩⟩; refine ⟨_, rfl, ?_⟩; have hcz78_0 : w72.cell? ⟨gb573, 0, none⟩ = some (.int .i64 x574000_2) := (blk_cell BK573.out 0).trans rfl; have hcz78_1 : w72.cell? ⟨gb573, 1, none⟩ = some (.int .i64 x574001_2) := (blk_cell BK573.out 1).trans rfl; have hcz78_2 : w72.cell? ⟨gb573, 2, none⟩ = some (.int .i64 x574002_2) := (blk_cell BK573.out 2).trans rfl; have hcz78_3 : w72.cell? ⟨gb573, 3, none⟩ = some (.int .i64 x574003_2) := (blk_cell BK573.out 3).trans rfl; have hcz78_4 : w72.cell? ⟨gb573, 4, none⟩ = some (.int .i64 x574004_2) := (blk_cell BK573.out 4).trans rfl; have hcz78_5 : w72.cell? ⟨gb573, 5, none⟩ = some (.int .i64 x574005_2) := (blk_cell BK573.out 5).trans rfl; have hcz78_6 : w72.cell? ⟨gb573, 6, none⟩ = some (.int .i64 x574006_2) := (blk_cell BK573.out 6).trans rfl; have hcz78_7 : w72.cell? ⟨gb573, 7, none⟩ = some (.int .i64 x574007_2) := (blk_cell BK573.out 7).trans rfl; have hcz78_8 : w72.cell? ⟨gb573, 8, none⟩ = some (.slice Ao70 x574008_2.length co70) := (blk_cell BK573.out 8).trans rfl; have hfz78_0 := blk_frozen BK573.out 0; have hfz78_1 := blk_frozen BK573.out 1; have hfz78_2 := blk_frozen BK573.out 2; have hfz78_3 := blk_frozen BK573.out 3; have hfz78_4 := blk_frozen BK573.out 4; have hfz78_5 := blk_frozen BK573.out 5; have hfz78_6 := blk_frozen BK573.out 6; have hfz78_7 := blk_frozen BK573.out 7; have hfz78_8 := blk_frozen BK573.out 8))
         go_roundg k2
         case measure => have := HJ3.out; have := HK2.out; omega
         case rel => exact ⟨(wrap64 (x9_2 + 1)), (t575), (t576), (t577), (t578), (t579), (t580), (t581), (t582), (t583), (.slice Ao77 t583.length co77), (by first | rfl | (simp; done) | (simp [*]; done)), H', ⟨by have := HJ3.out; have := HK2.out; omega⟩, ⟨by (with_reducible repeat (first | apply Kd.V_alloc | apply Kd.V_drewN | apply Kd.V_drew)); have zf830_ := Kd.V_mono (Kd.V_mono HO585.out (fun k_ hk => (⟨hk, hk.2⟩ : _ ∧ k_ ≠ gb587))) (fun k_ hk => (⟨hk, hk.1.1.2.2⟩ : _ ∧ k_ ≠ gb573)); exact Kd.V_mono ((V_thru8_ zf830_ (by intro zz_; repeat (first | with_reducible exact zz_ | with_reducible refine Kd.V_far ?_ (by first | exact (fun _ hk => hk.2) | exact (fun _ hk => hk.1.2)) _ | with_reducible refine Kd.V_drewN ?_ _ | with_reducible apply Kd.V_drew | with_reducible apply Kd.V_alloc)))) (fun _ hk => ⟨hk.1.1.1.1, ⟨hk.1.1.1.2.1, hk.1.1.1.2.2⟩⟩)⟩, ⟨by (with_reducible repeat (first | refine blk_drewN ?_ _ | refine blk_drew ?_ | refine blk_alloc ?_ _)); (iterate 9 (refine blk_far ?_ NB555_573.out _; (with_reducible repeat (first | refine blk_drewN ?_ _ | refine blk_drew ?_ | refine blk_alloc ?_ _)))); (iterate 9 (refine blk_far ?_ NB555_587.out _; (with_reducible repeat (first | refine blk_drewN ?_ _ | refine blk_drew ?_ | refine blk_alloc ?_ _)))); exact BK555.out⟩, ⟨by (with_reducible repeat (first | refine blk_drewN ?_ _ | refine blk_drew ?_ | refine blk_alloc ?_ _)); (iterate 9 (refine blk_far ?_ NB556_573.out _; (with_reducible repeat (first | refine blk_drewN ?_ _ | refine blk_drew ?_ | refine blk_alloc ?_ _)))); (iterate 9 (refine blk_far ?_ NB556_587.out _; (with_reducible repeat (first | refine blk_drewN ?_ _ | refine blk_drew ?_ | refine blk_alloc ?_ _)))); exact BK556.out⟩, ⟨by (with_reducible repeat (first | refine blk_drewN ?_ _ | refine blk_drew ?_ | refine blk_alloc ?_ _)); refine blk_put (cs := #[.int .i64 t575, .int .i64 t576, .int .i64 t577, .int .i64 t578, .int .i64 t579, .int .i64 t580, .int .i64 t581, .int .i64 t582, .slice Ao70 x574008_2.length co70]) ?_ 8 _ rfl; (with_reducible repeat (first | refine blk_drewN ?_ _ | refine blk_drew ?_ | refine blk_alloc ?_ _)); refine blk_put (cs := #[.int .i64 t575, .int .i64 t576, .int .i64 t577, .int .i64 t578, .int .i64 t579, .int .i64 t580, .int .i64 t581, .int .i64 x574007_2, .slice Ao70 x574008_2.length co70]) ?_ 7 _ rfl; (with_reducible repeat (first | refine blk_drewN ?_ _ | refine blk_drew ?_ | refine blk_alloc ?_ _)); refine blk_put (cs := #[.int .i64 t575, .int .i64 t576, .int .i64 t577, .int .i64 t578, .int .i64 t579, .int .i64 t580, .int .i64 x574006_2, .int .i64 x574007_2, .slice Ao70 x574008_2.length co70]) ?_ 6 _ rfl; (with_reducible repeat (first | refine blk_drewN ?_ _ | refine blk_drew ?_ | refine blk_alloc ?_ _)); refine blk_put (cs := #[.int .i64 t575, .int .i64 t576, .int .i64 t577, .int .i64 t578, .int .i64 t579, .int .i64 x574005_2, .int .i64 x574006_2, .int .i64 x574007_2, .slice Ao70 x574008_2.length co70]) ?_ 5 _ rfl; (with_reducible repeat (first | refine blk_drewN ?_ _ | refine blk_drew ?_ | refine blk_alloc ?_ _)); refine blk_put (cs := #[.int .i64 t575, .int .i64 t576, .int .i64 t577, .int .i64 t578, .int .i64 x574004_2, .int .i64 x574005_2, .int .i64 x574006_2, .int .i64 x574007_2, .slice Ao70 x574008_2.length co70]) ?_ 4 _ rfl; (with_reducible repeat (first | refine blk_drewN ?_ _ | refine blk_drew ?_ | refine blk_alloc ?_ _)); refine blk_put (cs := #[.int .i64 t575, .int .i64 t576, .int .i64 t577, .int .i64 x574003_2, .int .i64 x574004_2, .int .i64 x574005_2, .int .i64 x574006_2, .int .i64 x574007_2, .slice Ao70 x574008_2.length co70]) ?_ 3 _ rfl; (with_reducible repeat (first | refine blk_drewN ?_ _ | refine blk_drew ?_ | refine blk_alloc ?_ _)); refine blk_put (cs := #[.int .i64 t575, .int .i64 t576, .int .i64 x574002_2, .int .i64 x574003_2, .int .i64 x574004_2, .int .i64 x574005_2, .int .i64 x574006_2, .int .i64 x574007_2, .slice Ao70 x574008_2.length co70]) ?_ 2 _ rfl; (with_reducible repeat (first | refine blk_drewN ?_ _ | refine blk_drew ?_ | refine blk_alloc ?_ _)); refine blk_put (cs := #[.int .i64 t575, .int .i64 x574001_2, .int .i64 x574002_2, .int .i64 x574003_2, .int .i64 x574004_2, .int .i64 x574005_2, .int .i64 x574006_2, .int .i64 x574007_2, .slice Ao70 x574008_2.length co70]) ?_ 1 _ rfl; (with_reducible repeat (first | refine blk_drewN ?_ _ | refine blk_drew ?_ | refine blk_alloc ?_ _)); refine blk_put (cs := #[.int .i64 x574000_2, .int .i64 x574001_2, .int .i64 x574002_2, .int .i64 x574003_2, .int .i64 x574004_2, .int .i64 x574005_2, .int .i64 x574006_2, .int .i64 x574007_2, .slice Ao70 x574008_2.length co70]) ?_ 0 _ rfl; (with_reducible repeat (first | refine blk_drewN ?_ _ | refine blk_drew ?_ | refine blk_alloc ?_ _)); (iterate 9 (refine blk_far ?_ NB573_587.out _; (with_reducible repeat (first | refine blk_drewN ?_ _ | refine blk_drew ?_ | refine blk_alloc ?_ _)))); exact BK573.out⟩, ⟨by repeat (first | (with_reducible first | exact HB.out | apply below_alloc | apply pw_below_drewN | apply below_drew1 | refine below_set ?_ GE555.out | refine below_set ?_ GE556.out | refine below_set ?_ GE573.out | refine below_set ?_ GE587.out) | exact HB.out)⟩⟩
        ·
         rw [if_neg c64] at H
         have c64b0 : (t588 == 0) = false := beq_eq_false_iff_ne.mpr c64
         have c64b1 : (t588 != 0) = true := bne_iff_ne.mpr c64
         exact absurd (Option.some.inj H) (by rw [HT_.out]; exact Bool.false_ne_true)
       ·
        rw [if_neg c61] at H
        have c61b0 : decide (x9_2 < 16) = false := decide_eq_false c61
        clear c61
        replace H := Option.bind_eq_some_iff.mp H
        obtain ⟨⟨t589, t590, t591, t592, t593, t594, t595, t596, t597, t600⟩, A790, H⟩ := H
        replace H : ((rate_Push.f k2 x574000_2 x574001_2 x574002_2 x574003_2 x574004_2 x574005_2 x574006_2 x574007_2 x574008_2 11 (⟨#[]⟩ : ByteArray) (⟨#[]⟩ : ByteArray) (⟨#[]⟩ : ByteArray) 0 a2 0 0 false ([] : List (S69)) ([] : List Int)).bind fun bt602 => ((wharflaw19_num.f t600).bind fun t615 => (if t615 = 5 then ((wharflaw19_num.f bt602.2.2.2.2.2.2.2.2.2).bind fun t616 => (if t616 = 0 then (if (bt602.2.2.2.2.2.2.2.2.1.length : Int) = 16 then (if 0 < (bt602.2.2.2.2.2.2.2.2.1.length : Int) then (if ((rd_T41 bt602.2.2.2.2.2.2.2.2.1 0).f5) = a2 then ((wharflaw19_live.f k2).bind fun t618 => (some t618)) else (some false)) else (none)) else (some false)) else (some false))) else (some false)))) = some r := H
        have A79 := Aside0.mk A790
        clear A790
        replace H := Option.bind_eq_some_iff.mp H
        obtain ⟨⟨t602, t603, t604, t605, t606, t607, t608, t609, t610, t613⟩, A800, H⟩ := H
        replace H : ((wharflaw19_num.f t600).bind fun t615 => (if t615 = 5 then ((wharflaw19_num.f t613).bind fun t616 => (if t616 = 0 then (if (t610.length : Int) = 16 then (if 0 < (t610.length : Int) then (if ((rd_T41 t610 0).f5) = a2 then ((wharflaw19_live.f k2).bind fun t618 => (some t618)) else (some false)) else (none)) else (some false)) else (some false))) else (some false))) = some r := H
        have A80 := Aside0.mk A800
        clear A800
        replace H := Option.bind_eq_some_iff.mp H
        obtain ⟨t615, A810, H⟩ := H
        replace H : (if t615 = 5 then ((wharflaw19_num.f t613).bind fun t616 => (if t616 = 0 then (if (t610.length : Int) = 16 then (if 0 < (t610.length : Int) then (if ((rd_T41 t610 0).f5) = a2 then ((wharflaw19_live.f k2).bind fun t618 => (some t618)) else (some false)) else (none)) else (some false)) else (some false))) else (some false)) = some r := H
        have A81 := Aside0.mk A810
        clear A810
        by_cases c82 : t615 = 5
        ·
         rw [if_pos c82] at H
         have c82b0 : (t615 == 5) = true := beq_iff_eq.mpr c82
         have c82b1 : (t615 != 5) = false := bne_eq_false_iff_eq.mpr c82
         clear c82
         replace H := Option.bind_eq_some_iff.mp H
         obtain ⟨t616, A830, H⟩ := H
         replace H : (if t616 = 0 then (if (t610.length : Int) = 16 then (if 0 < (t610.length : Int) then (if ((rd_T41 t610 0).f5) = a2 then ((wharflaw19_live.f k2).bind fun t618 => (some t618)) else (some false)) else (none)) else (some false)) else (some false)) = some r := H
         have A83 := Aside0.mk A830
         clear A830
         by_cases c84 : t616 = 0
         ·
          rw [if_pos c84] at H
          have c84b0 : (t616 == 0) = true := beq_iff_eq.mpr c84
          have c84b1 : (t616 != 0) = false := bne_eq_false_iff_eq.mpr c84
          clear c84
          by_cases c85 : (t610.length : Int) = 16
          ·
           rw [if_pos c85] at H
           have c85b0 : ((t610.length : Int) == 16) = true := beq_iff_eq.mpr c85
           have c85b1 : ((t610.length : Int) != 16) = false := bne_eq_false_iff_eq.mpr c85
           clear c85
           by_cases c86 : 0 < (t610.length : Int)
           ·
            rw [if_pos c86] at H
            have c86b0 : decide (0 < (t610.length : Int)) = true := decide_eq_true c86
            have c86b1 : decide (0 < t610.length) = true := decide_eq_true (by omega)
            clear c86
            by_cases c87 : ((rd_T41 t610 0).f5) = a2
            ·
             rw [if_pos c87] at H
             have c87b0 : (((rd_T41 t610 0).f5) == a2) = true := beq_iff_eq.mpr c87
             have c87b1 : (((rd_T41 t610 0).f5) != a2) = false := bne_eq_false_iff_eq.mpr c87
             clear c87
             replace H := Option.bind_eq_some_iff.mp H
             obtain ⟨t618, A880, H⟩ := H
             replace H : (some t618) = some r := H
             have A88 := Aside0.mk A880
             clear A880
             obtain rfl := Option.some.inj H
             have hnb89 := NB573_555.out
             have hnc89 := NB555_573.out
             have hnb90 := NB573_556.out
             have hnc90 := NB556_573.out
             have hcz91_0 : wr.cell? ⟨gb573, 0, none⟩ = some (.int .i64 x574000_2) := (blk_cell BK573.out 0).trans rfl
             have hcz91_1 : wr.cell? ⟨gb573, 1, none⟩ = some (.int .i64 x574001_2) := (blk_cell BK573.out 1).trans rfl
             have hcz91_2 : wr.cell? ⟨gb573, 2, none⟩ = some (.int .i64 x574002_2) := (blk_cell BK573.out 2).trans rfl
             have hcz91_3 : wr.cell? ⟨gb573, 3, none⟩ = some (.int .i64 x574003_2) := (blk_cell BK573.out 3).trans rfl
             have hcz91_4 : wr.cell? ⟨gb573, 4, none⟩ = some (.int .i64 x574004_2) := (blk_cell BK573.out 4).trans rfl
             have hcz91_5 : wr.cell? ⟨gb573, 5, none⟩ = some (.int .i64 x574005_2) := (blk_cell BK573.out 5).trans rfl
             have hcz91_6 : wr.cell? ⟨gb573, 6, none⟩ = some (.int .i64 x574006_2) := (blk_cell BK573.out 6).trans rfl
             have hcz91_7 : wr.cell? ⟨gb573, 7, none⟩ = some (.int .i64 x574007_2) := (blk_cell BK573.out 7).trans rfl
             have hcz91_8 : wr.cell? ⟨gb573, 8, none⟩ = some (u574008) := (blk_cell BK573.out 8).trans rfl
             have hfz91_0 := blk_frozen BK573.out 0
             have hfz91_1 := blk_frozen BK573.out 1
             have hfz91_2 := blk_frozen BK573.out 2
             have hfz91_3 := blk_frozen BK573.out 3
             have hfz91_4 := blk_frozen BK573.out 4
             have hfz91_5 := blk_frozen BK573.out 5
             have hfz91_6 := blk_frozen BK573.out 6
             have hfz91_7 := blk_frozen BK573.out 7
             have hfz91_8 := blk_frozen BK573.out 8
             have hnb92 := NB556_555.out
             have hnc92 := NB555_556.out
             have hcz93_0 : wr.cell? ⟨gb556, 0, none⟩ = some (.int .i64 a1_0) := (blk_cell BK556.out 0).trans rfl
             have hcz93_1 : wr.cell? ⟨gb556, 1, none⟩ = some (.string a1_1) := (blk_cell BK556.out 1).trans rfl
             have hcz93_2 : wr.cell? ⟨gb556, 2, none⟩ = some (.string a1_2) := (blk_cell BK556.out 2).trans rfl
             have hcz93_3 : wr.cell? ⟨gb556, 3, none⟩ = some (.string a1_3) := (blk_cell BK556.out 3).trans rfl
             have hcz93_4 : wr.cell? ⟨gb556, 4, none⟩ = some (.int .i64 a1_4) := (blk_cell BK556.out 4).trans rfl
             have hcz93_5 : wr.cell? ⟨gb556, 5, none⟩ = some (.int .i64 a1_5) := (blk_cell BK556.out 5).trans rfl
             have hcz93_6 : wr.cell? ⟨gb556, 6, none⟩ = some (.int .i64 a1_6) := (blk_cell BK556.out 6).trans rfl
             have hcz93_7 : wr.cell? ⟨gb556, 7, none⟩ = some (.int .i64 a1_7) := (blk_cell BK556.out 7).trans rfl
             have hcz93_8 : wr.cell? ⟨gb556, 8, none⟩ = some (.bool a1_8) := (blk_cell BK556.out 8).trans rfl
             have hcz93_9 : wr.cell? ⟨gb556, 9, none⟩ = some (.slice A1_9 l1_9.length c1_9) := (blk_cell BK556.out 9).trans rfl
             have hcz93_10 : wr.cell? ⟨gb556, 10, none⟩ = some (.slice A1_10 l1_10.length c1_10) := (blk_cell BK556.out 10).trans rfl
             have hfz93_0 := blk_frozen BK556.out 0
             have hfz93_1 := blk_frozen BK556.out 1
             have hfz93_2 := blk_frozen BK556.out 2
             have hfz93_3 := blk_frozen BK556.out 3
             have hfz93_4 := blk_frozen BK556.out 4
             have hfz93_5 := blk_frozen BK556.out 5
             have hfz93_6 := blk_frozen BK556.out 6
             have hfz93_7 := blk_frozen BK556.out 7
             have hfz93_8 := blk_frozen BK556.out 8
             have hfz93_9 := blk_frozen BK556.out 9
             have hfz93_10 := blk_frozen BK556.out 10
             obtain ⟨Ao94, co94, eo94⟩ := Kd.V_slice HO_574008.out
             subst eo94
             go_wp2_with (first | ((with_reducible refine gate_callee (f := 23) rfl ?_); refine goesL_ (some 71) rfl rfl Try.func23 (by kernel_rfl) rfl #[.agg #[.int .i64 x574000_2, .int .i64 x574001_2, .int .i64 x574002_2, .int .i64 x574003_2, .int .i64 x574004_2, .int .i64 x574005_2, .int .i64 x574006_2, .int .i64 x574007_2, .slice Ao94 x574008_2.length co94], .agg #[.int .i64 a1_0, .string a1_1, .string a1_2, .string a1_3, .int .i64 a1_4, .int .i64 a1_5, .int .i64 a1_6, .int .i64 a1_7, .bool a1_8, .slice A1_9 l1_9.length c1_9, .slice A1_10 l1_10.length c1_10]] rfl (by (try simp only [List.map_toArray, List.map_cons, List.map_nil]); first | done | rfl | (simp only [List.length_drop, List.length_take]; rfl)) ?_; (with_reducible refine (rate_Push.calls k2 x574000_2 x574001_2 x574002_2 x574003_2 x574004_2 x574005_2 x574006_2 x574007_2 (fun k_ => (k_ ≠ gb555 ∧ (k_ ≠ gb556 ∧ k_ ≠ gb573))) _ _ x574008_2 a1_0 a1_1 a1_2 a1_3 a1_4 a1_5 a1_6 a1_7 a1_8 (fun k_ => k_ < w.heap.size) _ _ l1_9 (fun k_ => k_ < w.heap.size) _ _ l1_10 t589 t590 t591 t592 t593 t594 t595 t596 t597 t600 _ ?side1 ?side2 ?side3 A79.out).mono ?_); (case side1 => exact HO_574008.out); (case side2 => exact Kd.V_mk HC1_9.out (Kd.F_below (Kd.C_F k69_heap HR1_9.out) (by repeat (first | (with_reducible first | exact HB.out | apply below_alloc | apply pw_below_drewN | apply below_drew1 | refine below_set ?_ GE555.out | refine below_set ?_ GE556.out | refine below_set ?_ GE573.out) | exact HB.out)))); (case side3 => exact Kd.V_mk HC1_10.out (Kd.F_below (Kd.C_F (Kd.heap_int .i64) HR1_10.out) (by repeat (first | (with_reducible first | exact HB.out | apply below_alloc | apply pw_below_drewN | apply below_drew1 | refine below_set ?_ GE555.out | refine below_set ?_ GE556.out | refine below_set ?_ GE573.out) | exact HB.out)))); rintro e w95 ⟨v598, rfl, ho0, hb⟩; refine ⟨_, rfl, ?_⟩; have n0_ := Aside0.mk (Kd.V_below (by (with_reducible repeat (first | apply Kd.V_alloc | apply Kd.V_drewN | apply Kd.V_drew)); exact HO_574008.out) hb); have n1_ := Aside0.mk (Kd.V_lower (Kd.V_mono (ok' := fun k_ => k_ ≠ gb555 ∧ k_ ≠ gb556 ∧ k_ ≠ gb573) ho0 (fun k_ hk_ => ⟨Or.elim hk_ (fun hs_ => Or.elim hs_ (fun hs_ => hs_.1) (fun hs_ => Or.elim hs_ (fun hs_ => fun e_ => Nat.not_le.2 hs_ (by rw [e_]; exact GW555.out)) (fun hs_ => fun e_ => Nat.not_le.2 hs_ (by rw [e_]; exact GW555.out)))) (fun hn_ => (Kd.freshB (g := gb555) (o := .cells #[.int .i64 a0_0, .int .i64 a0_1, .int .i64 a0_2, .int .i64 a0_3, .int .i64 a0_4, .int .i64 a0_5, .int .i64 a0_6, .int .i64 a0_7] 23 (0, 0)) (by (with_reducible repeat (first | refine blk_drewN ?_ _ | refine blk_drew ?_ | refine blk_alloc ?_ _)); exact BK555.out) k_ hn_)), Or.elim hk_ (fun hs_ => Or.elim hs_ (fun hs_ => hs_.2.1) (fun hs_ => Or.elim hs_ (fun hs_ => fun e_ => Nat.not_le.2 hs_ (by rw [e_]; exact GW556.out)) (fun hs_ => fun e_ => Nat.not_le.2 hs_ (by rw [e_]; exact GW556.out)))) (fun hn_ => (Kd.freshB (g := gb556) (o := .cells #[.int .i64 a1_0, .string a1_1, .string a1_2, .string a1_3, .int .i64 a1_4, .int .i64 a1_5, .int .i64 a1_6, .int .i64 a1_7, .bool a1_8, .slice A1_9 l1_9.length c1_9, .slice A1_10 l1_10.length c1_10] 41 (0, 0)) (by (with_reducible repeat (first | refine blk_drewN ?_ _ | refine blk_drew ?_ | refine blk_alloc ?_ _)); exact BK556.out) k_ hn_)), Or.elim hk_ (fun hs_ => Or.elim hs_ (fun hs_ => hs_.2.2) (fun hs_ => Or.elim hs_ (fun hs_ => fun e_ => Nat.not_le.2 hs_ (by rw [e_]; exact GW573.out)) (fun hs_ => fun e_ => Nat.not_le.2 hs_ (by rw [e_]; exact GW573.out)))) (fun hn_ => (Kd.freshB (g := gb573) (o := .cells #[.int .i64 x574000_2, .int .i64 x574001_2, .int .i64 x574002_2, .int .i64 x574003_2, .int .i64 x574004_2, .int .i64 x574005_2, .int .i64 x574006_2, .int .i64 x574007_2, .slice Ao94 x574008_2.length co94] 36 (0, 0)) (by (with_reducible repeat (first | refine blk_drewN ?_ _ | refine blk_drew ?_ | refine blk_alloc ?_ _)); exact BK573.out) k_ hn_))⟩)) (below_size (by repeat (first | (with_reducible first | exact HB.out | apply below_alloc | apply pw_below_drewN | apply below_drew1 | refine below_set ?_ GE555.out | refine below_set ?_ GE556.out | refine below_set ?_ GE573.out) | exact HB.out)))); have n2_ := Aside0.mk (blk_below (g := gb555) (o := .cells #[.int .i64 a0_0, .int .i64 a0_1, .int .i64 a0_2, .int .i64 a0_3, .int .i64 a0_4, .int .i64 a0_5, .int .i64 a0_6, .int .i64 a0_7] 23 (0, 0)) (by (with_reducible repeat (first | refine blk_drewN ?_ _ | refine blk_drew ?_ | refine blk_alloc ?_ _)); exact BK555.out) hb); have n3_ := Aside0.mk (blk_below (g := gb556) (o := .cells #[.int .i64 a1_0, .string a1_1, .string a1_2, .string a1_3, .int .i64 a1_4, .int .i64 a1_5, .int .i64 a1_6, .int .i64 a1_7, .bool a1_8, .slice A1_9 l1_9.length c1_9, .slice A1_10 l1_10.length c1_10] 41 (0, 0)) (by (with_reducible repeat (first | refine blk_drewN ?_ _ | refine blk_drew ?_ | refine blk_alloc ?_ _)); exact BK556.out) hb); have n4_ := Aside0.mk (blk_below (g := gb573) (o := .cells #[.int .i64 x574000_2, .int .i64 x574001_2, .int .i64 x574002_2, .int .i64 x574003_2, .int .i64 x574004_2, .int .i64 x574005_2, .int .i64 x574006_2, .int .i64 x574007_2, .slice Ao94 x574008_2.length co94] 36 (0, 0)) (by (with_reducible repeat (first | refine blk_drewN ?_ _ | refine blk_drew ?_ | refine blk_alloc ?_ _)); exact BK573.out) hb); have n5_ := Aside0.mk (below_step (by repeat (first | (with_reducible first | exact HB.out | apply below_alloc | apply pw_below_drewN | apply below_drew1 | refine below_set ?_ GE555.out | refine below_set ?_ GE556.out | refine below_set ?_ GE573.out) | exact HB.out)) hb); clear HO_574008; clear BK555; clear BK556; clear BK573; clear HB; have HO_574008 := n0_; have HO599 := n1_; have BK555 := n2_; have BK556 := n3_; have BK573 := n4_; have HB := n5_; clear n0_ n1_ n2_ n3_ n4_ n5_; (try clear hb); (try clear hb2); (try clear hk); (try clear hi); (try clear ho0)) | ((with_reducible refine gate_dst (N := 12) rfl ?_); (try (refine gate_guard (by rfl) ?_; dsimp only)); refine box_event ?hg (N := 12) ?hd (cs := #[.int .i64 0, .int .i64 0, .int .i64 0, .int .i64 0, .int .i64 0, .int .i64 0, .int .i64 0, .int .i64 0, .slice none 0 0]) (t := 36) ?hr ?_; (case hd => rfl); (case hg => rfl); (case hr => first | (go_simp; done) | (go_simp; rfl)); intro gb601 hg w96 hbox hb; have n0_ := Aside0.mk (Kd.V_below (Kd.V_elderB (by (with_reducible repeat (first | apply Kd.V_alloc | apply Kd.V_drewN | apply Kd.V_drew)); exact HO_574008.out) gb601 (Nat.le_of_eq hg.symm)) hb); have n1_ := Aside0.mk (Kd.V_below (Kd.V_elderB (by (with_reducible repeat (first | apply Kd.V_alloc | apply Kd.V_drewN | apply Kd.V_drew)); exact HO599.out) gb601 (Nat.le_of_eq hg.symm)) hb); have n2_ := Aside0.mk (blk_below (g := gb555) (o := .cells #[.int .i64 a0_0, .int .i64 a0_1, .int .i64 a0_2, .int .i64 a0_3, .int .i64 a0_4, .int .i64 a0_5, .int .i64 a0_6, .int .i64 a0_7] 23 (0, 0)) (by (with_reducible repeat (first | refine blk_drewN ?_ _ | refine blk_drew ?_ | refine blk_alloc ?_ _)); exact BK555.out) hb); have n3_ := Aside0.mk (blk_below (g := gb556) (o := .cells #[.int .i64 a1_0, .string a1_1, .string a1_2, .string a1_3, .int .i64 a1_4, .int .i64 a1_5, .int .i64 a1_6, .int .i64 a1_7, .bool a1_8, .slice A1_9 l1_9.length c1_9, .slice A1_10 l1_10.length c1_10] 41 (0, 0)) (by (with_reducible repeat (first | refine blk_drewN ?_ _ | refine blk_drew ?_ | refine blk_alloc ?_ _)); exact BK556.out) hb); have n4_ := Aside0.mk (blk_below (g := gb573) (o := .cells #[.int .i64 x574000_2, .int .i64 x574001_2, .int .i64 x574002_2, .int .i64 x574003_2, .int .i64 x574004_2, .int .i64 x574005_2, .int .i64 x574006_2, .int .i64 x574007_2, .slice Ao94 x574008_2.length co94] 36 (0, 0)) (by (with_reducible repeat (first | refine blk_drewN ?_ _ | refine blk_drew ?_ | refine blk_alloc ?_ _)); exact BK573.out) hb); have n5_ := Aside0.mk (below_step (by repeat (first | (with_reducible first | exact HB.out | apply below_alloc | apply pw_below_drewN | apply below_drew1 | refine below_set ?_ GE555.out | refine below_set ?_ GE556.out | refine below_set ?_ GE573.out) | exact HB.out)) hb); have n6_ := Aside0.mk (hbox); have n7_ := Aside0.mk ((by rw [hg]; exact (below_size (by repeat (first | (with_reducible first | exact HB.out | apply below_alloc | apply pw_below_drewN | apply below_drew1 | refine below_set ?_ GE555.out | refine below_set ?_ GE556.out | refine below_set ?_ GE573.out) | exact HB.out))) : w.heap.size ≤ gb601)); have n8_ := Aside0.mk ((by rw [hg]; exact (below_size (by repeat (first | (with_reducible first | exact HB.out | apply below_alloc | apply pw_below_drewN | apply below_drew1 | refine below_set ?_ GE555.out | refine below_set ?_ GE556.out | refine below_set ?_ GE573.out) | exact HB.out))) : w.heap.size ≤ gb601)); have n9_ := Aside0.mk ((by rw [hg]; exact Nat.ne_of_lt (blk_lt (g := gb555) (o := .cells #[.int .i64 a0_0, .int .i64 a0_1, .int .i64 a0_2, .int .i64 a0_3, .int .i64 a0_4, .int .i64 a0_5, .int .i64 a0_6, .int .i64 a0_7] 23 (0, 0)) (by (with_reducible repeat (first | refine blk_drewN ?_ _ | refine blk_drew ?_ | refine blk_alloc ?_ _)); exact BK555.out)) : gb555 ≠ gb601)); have n10_ := Aside0.mk ((by rw [hg]; exact Nat.ne_of_gt (blk_lt (g := gb555) (o := .cells #[.int .i64 a0_0, .int .i64 a0_1, .int .i64 a0_2, .int .i64 a0_3, .int .i64 a0_4, .int .i64 a0_5, .int .i64 a0_6, .int .i64 a0_7] 23 (0, 0)) (by (with_reducible repeat (first | refine blk_drewN ?_ _ | refine blk_drew ?_ | refine blk_alloc ?_ _)); exact BK555.out)) : gb601 ≠ gb555)); have n11_ := Aside0.mk ((by rw [hg]; exact Nat.ne_of_lt (blk_lt (g := gb556) (o := .cells #[.int .i64 a1_0, .string a1_1, .string a1_2, .string a1_3, .int .i64 a1_4, .int .i64 a1_5, .int .i64 a1_6, .int .i64 a1_7, .bool a1_8, .slice A1_9 l1_9.length c1_9, .slice A1_10 l1_10.length c1_10] 41 (0, 0)) (by (with_reducible repeat (first | refine blk_drewN ?_ _ | refine blk_drew ?_ | refine blk_alloc ?_ _)); exact BK556.out)) : gb556 ≠ gb601)); have n12_ := Aside0.mk ((by rw [hg]; exact Nat.ne_of_gt (blk_lt (g := gb556) (o := .cells #[.int .i64 a1_0, .string a1_1, .string a1_2, .string a1_3, .int .i64 a1_4, .int .i64 a1_5, .int .i64 a1_6, .int .i64 a1_7, .bool a1_8, .slice A1_9 l1_9.length c1_9, .slice A1_10 l1_10.length c1_10] 41 (0, 0)) (by (with_reducible repeat (first | refine blk_drewN ?_ _ | refine blk_drew ?_ | refine blk_alloc ?_ _)); exact BK556.out)) : gb601 ≠ gb556)); have n13_ := Aside0.mk ((by rw [hg]; exact Nat.ne_of_lt (blk_lt (g := gb573) (o := .cells #[.int .i64 x574000_2, .int .i64 x574001_2, .int .i64 x574002_2, .int .i64 x574003_2, .int .i64 x574004_2, .int .i64 x574005_2, .int .i64 x574006_2, .int .i64 x574007_2, .slice Ao94 x574008_2.length co94] 36 (0, 0)) (by (with_reducible repeat (first | refine blk_drewN ?_ _ | refine blk_drew ?_ | refine blk_alloc ?_ _)); exact BK573.out)) : gb573 ≠ gb601)); have n14_ := Aside0.mk ((by rw [hg]; exact Nat.ne_of_gt (blk_lt (g := gb573) (o := .cells #[.int .i64 x574000_2, .int .i64 x574001_2, .int .i64 x574002_2, .int .i64 x574003_2, .int .i64 x574004_2, .int .i64 x574005_2, .int .i64 x574006_2, .int .i64 x574007_2, .slice Ao94 x574008_2.length co94] 36 (0, 0)) (by (with_reducible repeat (first | refine blk_drewN ?_ _ | refine blk_drew ?_ | refine blk_alloc ?_ _)); exact BK573.out)) : gb601 ≠ gb573)); clear HO_574008; clear HO599; clear BK555; clear BK556; clear BK573; clear HB; have HO_574008 := n0_; have HO599 := n1_; have BK555 := n2_; have BK556 := n3_; have BK573 := n4_; have HB := n5_; have BK601 := n6_; have GW601 := n7_; have GE601 := n8_; have NB555_601 := n9_; have NB601_555 := n10_; have NB556_601 := n11_; have NB601_556 := n12_; have NB573_601 := n13_; have NB601_573 := n14_; clear n0_ n1_ n2_ n3_ n4_ n5_ n6_ n7_ n8_ n9_ n10_ n11_ n12_ n13_ n14_; clear hb hbox hg; have hnb97 := NB601_555.out; have hnc97 := NB555_601.out; have hnb98 := NB601_556.out; have hnc98 := NB556_601.out; have hnb99 := NB601_573.out; have hnc99 := NB573_601.out; have hcz100_0 : w96.cell? ⟨gb601, 0, none⟩ = some (.int .i64 0) := (blk_cell BK601.out 0).trans rfl; have hcz100_1 : w96.cell? ⟨gb601, 1, none⟩ = some (.int .i64 0) := (blk_cell BK601.out 1).trans rfl; have hcz100_2 : w96.cell? ⟨gb601, 2, none⟩ = some (.int .i64 0) := (blk_cell BK601.out 2).trans rfl; have hcz100_3 : w96.cell? ⟨gb601, 3, none⟩ = some (.int .i64 0) := (blk_cell BK601.out 3).trans rfl; have hcz100_4 : w96.cell? ⟨gb601, 4, none⟩ = some (.int .i64 0) := (blk_cell BK601.out 4).trans rfl; have hcz100_5 : w96.cell? ⟨gb601, 5, none⟩ = some (.int .i64 0) := (blk_cell BK601.out 5).trans rfl; have hcz100_6 : w96.cell? ⟨gb601, 6, none⟩ = some (.int .i64 0) := (blk_cell BK601.out 6).trans rfl; have hcz100_7 : w96.cell? ⟨gb601, 7, none⟩ = some (.int .i64 0) := (blk_cell BK601.out 7).trans rfl; have hcz100_8 : w96.cell? ⟨gb601, 8, none⟩ = some (.slice none 0 0) := (blk_cell BK601.out 8).trans rfl; have hfz100_0 := blk_frozen BK601.out 0; have hfz100_1 := blk_frozen BK601.out 1; have hfz100_2 := blk_frozen BK601.out 2; have hfz100_3 := blk_frozen BK601.out 3; have hfz100_4 := blk_frozen BK601.out 4; have hfz100_5 := blk_frozen BK601.out 5; have hfz100_6 := blk_frozen BK601.out 6; have hfz100_7 := blk_frozen BK601.out 7; have hfz100_8 := blk_frozen BK601.out 8; obtain ⟨Ao101, co101, eo101⟩ := Kd.V_slice HO599.out; subst eo101) | ((with_reducible refine gate_store (t := 36) (p := 12) rfl ?_); refine store_event (t := 36) (p := 12) (v := ?vo_w102) (w1 := (((((((((w96.setCell ⟨gb601, 0, none⟩ (.int .i64 t589)).setCell ⟨gb601, 1, none⟩ (.int .i64 t590)).setCell ⟨gb601, 2, none⟩ (.int .i64 t591)).setCell ⟨gb601, 3, none⟩ (.int .i64 t592)).setCell ⟨gb601, 4, none⟩ (.int .i64 t593)).setCell ⟨gb601, 5, none⟩ (.int .i64 t594)).setCell ⟨gb601, 6, none⟩ (.int .i64 t595)).setCell ⟨gb601, 7, none⟩ (.int .i64 t596)).setCell ⟨gb601, 8, none⟩ (.slice Ao101 t597.length co101))) ?hg ?ho ?hn ?hr ?_; (case ho => rfl); (case hg => rfl); (case hn => rfl); (case hr => first | (go_simp; done) | (go_simp; rfl)); intro w102 hw; have n0_ : Aside0 (Kd.V k41 41 w102 w.heap.size (fun k_ => k_ ≠ gb555 ∧ k_ ≠ gb556 ∧ k_ ≠ gb573 ∧ k_ ≠ gb601) (.slice Ao94 x574008_2.length co94) x574008_2) := ⟨(by rw [hw]; exact (by (with_reducible repeat (first | apply Kd.V_alloc | apply Kd.V_drewN | apply Kd.V_drew)); have zf840_ := Kd.V_mono HO_574008.out (fun k_ hk => (⟨hk, hk.2⟩ : _ ∧ k_ ≠ gb601)); exact Kd.V_mono ((V_thru8_ zf840_ (by intro zz_; repeat (first | with_reducible exact zz_ | with_reducible refine Kd.V_far ?_ (by first | exact (fun _ hk => hk.2)) _ | with_reducible refine Kd.V_drewN ?_ _ | with_reducible apply Kd.V_drew | with_reducible apply Kd.V_alloc)))) (fun _ hk => ⟨hk.1.1.1, ⟨hk.1.1.2.1, ⟨hk.1.1.2.2, hk.1.2⟩⟩⟩)))⟩; have n1_ : Aside0 (Kd.V k41 41 w102 w.heap.size (fun k_ => k_ ≠ gb555 ∧ k_ ≠ gb556 ∧ k_ ≠ gb573 ∧ k_ ≠ gb601) (.slice Ao101 t597.length co101) t597) := ⟨(by rw [hw]; exact (by (with_reducible repeat (first | apply Kd.V_alloc | apply Kd.V_drewN | apply Kd.V_drew)); have zf850_ := Kd.V_mono HO599.out (fun k_ hk => (⟨hk, hk.2⟩ : _ ∧ k_ ≠ gb601)); exact Kd.V_mono ((V_thru8_ zf850_ (by intro zz_; repeat (first | with_reducible exact zz_ | with_reducible refine Kd.V_far ?_ (by first | exact (fun _ hk => hk.2)) _ | with_reducible refine Kd.V_drewN ?_ _ | with_reducible apply Kd.V_drew | with_reducible apply Kd.V_alloc)))) (fun _ hk => ⟨hk.1.1.1, ⟨hk.1.1.2.1, ⟨hk.1.1.2.2, hk.1.2⟩⟩⟩)))⟩; have n2_ : Aside0 (w102.heap[gb555]? = some (.cells #[.int .i64 a0_0, .int .i64 a0_1, .int .i64 a0_2, .int .i64 a0_3, .int .i64 a0_4, .int .i64 a0_5, .int .i64 a0_6, .int .i64 a0_7] 23 (0, 0))) := ⟨(by rw [hw]; exact (by (with_reducible repeat (first | refine blk_drewN ?_ _ | refine blk_drew ?_ | refine blk_alloc ?_ _)); (iterate 9 (refine blk_far ?_ NB555_601.out _; (with_reducible repeat (first | refine blk_drewN ?_ _ | refine blk_drew ?_ | refine blk_alloc ?_ _)))); exact BK555.out))⟩; have n3_ : Aside0 (w102.heap[gb556]? = some (.cells #[.int .i64 a1_0, .string a1_1, .string a1_2, .string a1_3, .int .i64 a1_4, .int .i64 a1_5, .int .i64 a1_6, .int .i64 a1_7, .bool a1_8, .slice A1_9 l1_9.length c1_9, .slice A1_10 l1_10.length c1_10] 41 (0, 0))) := ⟨(by rw [hw]; exact (by (with_reducible repeat (first | refine blk_drewN ?_ _ | refine blk_drew ?_ | refine blk_alloc ?_ _)); (iterate 9 (refine blk_far ?_ NB556_601.out _; (with_reducible repeat (first | refine blk_drewN ?_ _ | refine blk_drew ?_ | refine blk_alloc ?_ _)))); exact BK556.out))⟩; have n4_ : Aside0 (w102.heap[gb573]? = some (.cells #[.int .i64 x574000_2, .int .i64 x574001_2, .int .i64 x574002_2, .int .i64 x574003_2, .int .i64 x574004_2, .int .i64 x574005_2, .int .i64 x574006_2, .int .i64 x574007_2, .slice Ao94 x574008_2.length co94] 36 (0, 0))) := ⟨(by rw [hw]; exact (by (with_reducible repeat (first | refine blk_drewN ?_ _ | refine blk_drew ?_ | refine blk_alloc ?_ _)); (iterate 9 (refine blk_far ?_ NB573_601.out _; (with_reducible repeat (first | refine blk_drewN ?_ _ | refine blk_drew ?_ | refine blk_alloc ?_ _)))); exact BK573.out))⟩; have n5_ : Aside0 (w102.heap[gb601]? = some (.cells #[.int .i64 t589, .int .i64 t590, .int .i64 t591, .int .i64 t592, .int .i64 t593, .int .i64 t594, .int .i64 t595, .int .i64 t596, .slice Ao101 t597.length co101] 36 (0, 0))) := ⟨(by rw [hw]; exact (by (with_reducible repeat (first | refine blk_drewN ?_ _ | refine blk_drew ?_ | refine blk_alloc ?_ _)); refine blk_put (cs := #[.int .i64 t589, .int .i64 t590, .int .i64 t591, .int .i64 t592, .int .i64 t593, .int .i64 t594, .int .i64 t595, .int .i64 t596, .slice none 0 0]) ?_ 8 _ rfl; (with_reducible repeat (first | refine blk_drewN ?_ _ | refine blk_drew ?_ | refine blk_alloc ?_ _)); refine blk_put (cs := #[.int .i64 t589, .int .i64 t590, .int .i64 t591, .int .i64 t592, .int .i64 t593, .int .i64 t594, .int .i64 t595, .int .i64 0, .slice none 0 0]) ?_ 7 _ rfl; (with_reducible repeat (first | refine blk_drewN ?_ _ | refine blk_drew ?_ | refine blk_alloc ?_ _)); refine blk_put (cs := #[.int .i64 t589, .int .i64 t590, .int .i64 t591, .int .i64 t592, .int .i64 t593, .int .i64 t594, .int .i64 0, .int .i64 0, .slice none 0 0]) ?_ 6 _ rfl; (with_reducible repeat (first | refine blk_drewN ?_ _ | refine blk_drew ?_ | refine blk_alloc ?_ _)); refine blk_put (cs := #[.int .i64 t589, .int .i64 t590, .int .i64 t591, .int .i64 t592, .int .i64 t593, .int .i64 0, .int .i64 0, .int .i64 0, .slice none 0 0]) ?_ 5 _ rfl; (with_reducible repeat (first | refine blk_drewN ?_ _ | refine blk_drew ?_ | refine blk_alloc ?_ _)); refine blk_put (cs := #[.int .i64 t589, .int .i64 t590, .int .i64 t591, .int .i64 t592, .int .i64 0, .int .i64 0, .int .i64 0, .int .i64 0, .slice none 0 0]) ?_ 4 _ rfl; (with_reducible repeat (first | refine blk_drewN ?_ _ | refine blk_drew ?_ | refine blk_alloc ?_ _)); refine blk_put (cs := #[.int .i64 t589, .int .i64 t590, .int .i64 t591, .int .i64 0, .int .i64 0, .int .i64 0, .int .i64 0, .int .i64 0, .slice none 0 0]) ?_ 3 _ rfl; (with_reducible repeat (first | refine blk_drewN ?_ _ | refine blk_drew ?_ | refine blk_alloc ?_ _)); refine blk_put (cs := #[.int .i64 t589, .int .i64 t590, .int .i64 0, .int .i64 0, .int .i64 0, .int .i64 0, .int .i64 0, .int .i64 0, .slice none 0 0]) ?_ 2 _ rfl; (with_reducible repeat (first | refine blk_drewN ?_ _ | refine blk_drew ?_ | refine blk_alloc ?_ _)); refine blk_put (cs := #[.int .i64 t589, .int .i64 0, .int .i64 0, .int .i64 0, .int .i64 0, .int .i64 0, .int .i64 0, .int .i64 0, .slice none 0 0]) ?_ 1 _ rfl; (with_reducible repeat (first | refine blk_drewN ?_ _ | refine blk_drew ?_ | refine blk_alloc ?_ _)); refine blk_put (cs := #[.int .i64 0, .int .i64 0, .int .i64 0, .int .i64 0, .int .i64 0, .int .i64 0, .int .i64 0, .int .i64 0, .slice none 0 0]) ?_ 0 _ rfl; (with_reducible repeat (first | refine blk_drewN ?_ _ | refine blk_drew ?_ | refine blk_alloc ?_ _)); exact BK601.out))⟩; have n6_ : Aside0 (Below w.heap.size w w102) := ⟨(by rw [hw]; exact (by repeat (first | (with_reducible first | exact HB.out | apply below_alloc | apply pw_below_drewN | apply below_drew1 | refine below_set ?_ GE555.out | refine below_set ?_ GE556.out | refine below_set ?_ GE573.out | refine below_set ?_ GE601.out) | exact HB.out)))⟩; clear hw; clear HO_574008; clear HO599; clear BK555; clear BK556; clear BK573; clear BK601; clear HB; have HO_574008 := n0_; have HO599 := n1_; have BK555 := n2_; have BK556 := n3_; have BK573 := n4_; have BK601 := n5_; have HB := n6_; clear n0_ n1_ n2_ n3_ n4_ n5_ n6_; have hcz103_0 : w102.cell? ⟨gb573, 0, none⟩ = some (.int .i64 x574000_2) := (blk_cell BK573.out 0).trans rfl; have hcz103_1 : w102.cell? ⟨gb573, 1, none⟩ = some (.int .i64 x574001_2) := (blk_cell BK573.out 1).trans rfl; have hcz103_2 : w102.cell? ⟨gb573, 2, none⟩ = some (.int .i64 x574002_2) := (blk_cell BK573.out 2).trans rfl; have hcz103_3 : w102.cell? ⟨gb573, 3, none⟩ = some (.int .i64 x574003_2) := (blk_cell BK573.out 3).trans rfl; have hcz103_4 : w102.cell? ⟨gb573, 4, none⟩ = some (.int .i64 x574004_2) := (blk_cell BK573.out 4).trans rfl; have hcz103_5 : w102.cell? ⟨gb573, 5, none⟩ = some (.int .i64 x574005_2) := (blk_cell BK573.out 5).trans rfl; have hcz103_6 : w102.cell? ⟨gb573, 6, none⟩ = some (.int .i64 x574006_2) := (blk_cell BK573.out 6).trans rfl; have hcz103_7 : w102.cell? ⟨gb573, 7, none⟩ = some (.int .i64 x574007_2) := (blk_cell BK573.out 7).trans rfl; have hcz103_8 : w102.cell? ⟨gb573, 8, none⟩ = some (.slice Ao94 x574008_2.length co94) := (blk_cell BK573.out 8).trans rfl; have hfz103_0 := blk_frozen BK573.out 0; have hfz103_1 := blk_frozen BK573.out 1; have hfz103_2 := blk_frozen BK573.out 2; have hfz103_3 := blk_frozen BK573.out 3; have hfz103_4 := blk_frozen BK573.out 4; have hfz103_5 := blk_frozen BK573.out 5; have hfz103_6 := blk_frozen BK573.out 6; have hfz103_7 := blk_frozen BK573.out 7; have hfz103_8 := blk_frozen BK573.out 8) | ((with_reducible refine gate_callee (f := 23) rfl ?_); refine goesL_ (some 78) rfl rfl Try.func23 (by kernel_rfl) rfl #[.agg #[.int .i64 x574000_2, .int .i64 x574001_2, .int .i64 x574002_2, .int .i64 x574003_2, .int .i64 x574004_2, .int .i64 x574005_2, .int .i64 x574006_2, .int .i64 x574007_2, .slice Ao94 x574008_2.length co94], .agg #[.int .i64 11, .string (⟨#[]⟩ : ByteArray), .string (⟨#[]⟩ : ByteArray), .string (⟨#[]⟩ : ByteArray), .int .i64 0, .int .i64 a2, .int .i64 0, .int .i64 0, .bool false, .slice none 0 0, .slice none 0 0]] rfl (by (try simp only [List.map_toArray, List.map_cons, List.map_nil]); first | done | rfl | (simp only [List.length_drop, List.length_take]; rfl)) ?_; (refine (rate_Push.calls k2 x574000_2 x574001_2 x574002_2 x574003_2 x574004_2 x574005_2 x574006_2 x574007_2 (fun k_ => (k_ ≠ gb555 ∧ (k_ ≠ gb556 ∧ (k_ ≠ gb573 ∧ k_ ≠ gb601)))) _ _ x574008_2 11 (⟨#[]⟩ : ByteArray) (⟨#[]⟩ : ByteArray) (⟨#[]⟩ : ByteArray) 0 a2 0 0 false (fun k_ => False) _ _ ([] : List (S69)) (fun k_ => False) _ _ ([] : List Int) t602 t603 t604 t605 t606 t607 t608 t609 t610 t613 _ ?side1 ?side2 ?side3 A80.out).mono ?_); (case side1 => exact HO_574008.out); (case side2 => exact Kd.V_nil _ _ _ _ _); (case side3 => exact Kd.V_nil _ _ _ _ _); rintro e w104 ⟨v611, rfl, ho0, hb⟩; refine ⟨_, rfl, ?_⟩; have n0_ := Aside0.mk (Kd.V_below (by (with_reducible repeat (first | apply Kd.V_alloc | apply Kd.V_drewN | apply Kd.V_drew)); exact HO_574008.out) hb); have n1_ := Aside0.mk (Kd.V_below (by (with_reducible repeat (first | apply Kd.V_alloc | apply Kd.V_drewN | apply Kd.V_drew)); exact HO599.out) hb); have n2_ := Aside0.mk (Kd.V_lower (Kd.V_mono (ok' := fun k_ => k_ ≠ gb555 ∧ k_ ≠ gb556 ∧ k_ ≠ gb573 ∧ k_ ≠ gb601) ho0 (fun k_ hk_ => ⟨Or.elim hk_ (fun hs_ => Or.elim hs_ (fun hs_ => hs_.1) (fun hs_ => Or.elim hs_ (fun hs_ => (hs_).elim) (fun hs_ => (hs_).elim))) (fun hn_ => (Kd.freshB (g := gb555) (o := .cells #[.int .i64 a0_0, .int .i64 a0_1, .int .i64 a0_2, .int .i64 a0_3, .int .i64 a0_4, .int .i64 a0_5, .int .i64 a0_6, .int .i64 a0_7] 23 (0, 0)) (by (with_reducible repeat (first | refine blk_drewN ?_ _ | refine blk_drew ?_ | refine blk_alloc ?_ _)); exact BK555.out) k_ hn_)), Or.elim hk_ (fun hs_ => Or.elim hs_ (fun hs_ => hs_.2.1) (fun hs_ => Or.elim hs_ (fun hs_ => (hs_).elim) (fun hs_ => (hs_).elim))) (fun hn_ => (Kd.freshB (g := gb556) (o := .cells #[.int .i64 a1_0, .string a1_1, .string a1_2, .string a1_3, .int .i64 a1_4, .int .i64 a1_5, .int .i64 a1_6, .int .i64 a1_7, .bool a1_8, .slice A1_9 l1_9.length c1_9, .slice A1_10 l1_10.length c1_10] 41 (0, 0)) (by (with_reducible repeat (first | refine blk_drewN ?_ _ | refine blk_drew ?_ | refine blk_alloc ?_ _)); exact BK556.out) k_ hn_)), Or.elim hk_ (fun hs_ => Or.elim hs_ (fun hs_ => hs_.2.2.1) (fun hs_ => Or.elim hs_ (fun hs_ => (hs_).elim) (fun hs_ => (hs_).elim))) (fun hn_ => (Kd.freshB (g := gb573) (o := .cells #[.int .i64 x574000_2, .int .i64 x574001_2, .int .i64 x574002_2, .int .i64 x574003_2, .int .i64 x574004_2, .int .i64 x574005_2, .int .i64 x574006_2, .int .i64 x574007_2, .slice Ao94 x574008_2.length co94] 36 (0, 0)) (by (with_reducible repeat (first | refine blk_drewN ?_ _ | refine blk_drew ?_ | refine blk_alloc ?_ _)); exact BK573.out) k_ hn_)), Or.elim hk_ (fun hs_ => Or.elim hs_ (fun hs_ => hs_.2.2.2) (fun hs_ => Or.elim hs_ (fun hs_ => (hs_).elim) (fun hs_ => (hs_).elim))) (fun hn_ => (Kd.freshB (g := gb601) (o := .cells #[.int .i64 t589, .int .i64 t590, .int .i64 t591, .int .i64 t592, .int .i64 t593, .int .i64 t594, .int .i64 t595, .int .i64 t596, .slice Ao101 t597.length co101] 36 (0, 0)) (by (with_reducible repeat (first | refine blk_drewN ?_ _ | refine blk_drew ?_ | refine blk_alloc ?_ _)); exact BK601.out) k_ hn_))⟩)) (below_size (by repeat (first | (with_reducible first | exact HB.out | apply below_alloc | apply pw_below_drewN | apply below_drew1 | refine below_set ?_ GE555.out | refine below_set ?_ GE556.out | refine below_set ?_ GE573.out | refine below_set ?_ GE601.out) | exact HB.out)))); have n3_ := Aside0.mk (blk_below (g := gb555) (o := .cells #[.int .i64 a0_0, .int .i64 a0_1, .int .i64 a0_2, .int .i64 a0_3, .int .i64 a0_4, .int .i64 a0_5, .int .i64 a0_6, .int .i64 a0_7] 23 (0, 0)) (by (with_reducible repeat (first | refine blk_drewN ?_ _ | refine blk_drew ?_ | refine blk_alloc ?_ _)); exact BK555.out) hb); have n4_ := Aside0.mk (blk_below (g := gb556) (o := .cells #[.int .i64 a1_0, .string a1_1, .string a1_2, .string a1_3, .int .i64 a1_4, .int .i64 a1_5, .int .i64 a1_6, .int .i64 a1_7, .bool a1_8, .slice A1_9 l1_9.length c1_9, .slice A1_10 l1_10.length c1_10] 41 (0, 0)) (by (with_reducible repeat (first | refine blk_drewN ?_ _ | refine blk_drew ?_ | refine blk_alloc ?_ _)); exact BK556.out) hb); have n5_ := Aside0.mk (blk_below (g := gb573) (o := .cells #[.int .i64 x574000_2, .int .i64 x574001_2, .int .i64 x574002_2, .int .i64 x574003_2, .int .i64 x574004_2, .int .i64 x574005_2, .int .i64 x574006_2, .int .i64 x574007_2, .slice Ao94 x574008_2.length co94] 36 (0, 0)) (by (with_reducible repeat (first | refine blk_drewN ?_ _ | refine blk_drew ?_ | refine blk_alloc ?_ _)); exact BK573.out) hb); have n6_ := Aside0.mk (blk_below (g := gb601) (o := .cells #[.int .i64 t589, .int .i64 t590, .int .i64 t591, .int .i64 t592, .int .i64 t593, .int .i64 t594, .int .i64 t595, .int .i64 t596, .slice Ao101 t597.length co101] 36 (0, 0)) (by (with_reducible repeat (first | refine blk_drewN ?_ _ | refine blk_drew ?_ | refine blk_alloc ?_ _)); exact BK601.out) hb); have n7_ := Aside0.mk (below_step (by repeat (first | (with_reducible first | exact HB.out | apply below_alloc | apply pw_below_drewN | apply below_drew1 | refine below_set ?_ GE555.out | refine below_set ?_ GE556.out | refine below_set ?_ GE573.out | refine below_set ?_ GE601.out) | exact HB.out)) hb); clear HO_574008; clear HO599; clear BK555; clear BK556; clear BK573; clear BK601; clear HB; have HO_574008 := n0_; have HO599 := n1_; have HO612 := n2_; have BK555 := n3_; have BK556 := n4_; have BK573 := n5_; have BK601 := n6_; have HB := n7_; clear n0_ n1_ n2_ n3_ n4_ n5_ n6_ n7_; (try clear hb); (try clear hb2); (try clear hk); (try clear hi); (try clear ho0)) | ((with_reducible refine gate_dst (N := 14) rfl ?_); (try (refine gate_guard (by rfl) ?_; dsimp only)); refine box_event ?hg (N := 14) ?hd (cs := #[.int .i64 0, .int .i64 0, .int .i64 0, .int .i64 0, .int .i64 0, .int .i64 0, .int .i64 0, .int .i64 0, .slice none 0 0]) (t := 36) ?hr ?_; (case hd => rfl); (case hg => rfl); (case hr => first | (go_simp; done) | (go_simp; rfl)); intro gb614 hg w105 hbox hb; have n0_ := Aside0.mk (Kd.V_below (Kd.V_elderB (by (with_reducible repeat (first | apply Kd.V_alloc | apply Kd.V_drewN | apply Kd.V_drew)); exact HO_574008.out) gb614 (Nat.le_of_eq hg.symm)) hb); have n1_ := Aside0.mk (Kd.V_below (Kd.V_elderB (by (with_reducible repeat (first | apply Kd.V_alloc | apply Kd.V_drewN | apply Kd.V_drew)); exact HO599.out) gb614 (Nat.le_of_eq hg.symm)) hb); have n2_ := Aside0.mk (Kd.V_below (Kd.V_elderB (by (with_reducible repeat (first | apply Kd.V_alloc | apply Kd.V_drewN | apply Kd.V_drew)); exact HO612.out) gb614 (Nat.le_of_eq hg.symm)) hb); have n3_ := Aside0.mk (blk_below (g := gb555) (o := .cells #[.int .i64 a0_0, .int .i64 a0_1, .int .i64 a0_2, .int .i64 a0_3, .int .i64 a0_4, .int .i64 a0_5, .int .i64 a0_6, .int .i64 a0_7] 23 (0, 0)) (by (with_reducible repeat (first | refine blk_drewN ?_ _ | refine blk_drew ?_ | refine blk_alloc ?_ _)); exact BK555.out) hb); have n4_ := Aside0.mk (blk_below (g := gb556) (o := .cells #[.int .i64 a1_0, .string a1_1, .string a1_2, .string a1_3, .int .i64 a1_4, .int .i64 a1_5, .int .i64 a1_6, .int .i64 a1_7, .bool a1_8, .slice A1_9 l1_9.length c1_9, .slice A1_10 l1_10.length c1_10] 41 (0, 0)) (by (with_reducible repeat (first | refine blk_drewN ?_ _ | refine blk_drew ?_ | refine blk_alloc ?_ _)); exact BK556.out) hb); have n5_ := Aside0.mk (blk_below (g := gb573) (o := .cells #[.int .i64 x574000_2, .int .i64 x574001_2, .int .i64 x574002_2, .int .i64 x574003_2, .int .i64 x574004_2, .int .i64 x574005_2, .int .i64 x574006_2, .int .i64 x574007_2, .slice Ao94 x574008_2.length co94] 36 (0, 0)) (by (with_reducible repeat (first | refine blk_drewN ?_ _ | refine blk_drew ?_ | refine blk_alloc ?_ _)); exact BK573.out) hb); have n6_ := Aside0.mk (blk_below (g := gb601) (o := .cells #[.int .i64 t589, .int .i64 t590, .int .i64 t591, .int .i64 t592, .int .i64 t593, .int .i64 t594, .int .i64 t595, .int .i64 t596, .slice Ao101 t597.length co101] 36 (0, 0)) (by (with_reducible repeat (first | refine blk_drewN ?_ _ | refine blk_drew ?_ | refine blk_alloc ?_ _)); exact BK601.out) hb); have n7_ := Aside0.mk (below_step (by repeat (first | (with_reducible first | exact HB.out | apply below_alloc | apply pw_below_drewN | apply below_drew1 | refine below_set ?_ GE555.out | refine below_set ?_ GE556.out | refine below_set ?_ GE573.out | refine below_set ?_ GE601.out) | exact HB.out)) hb); have n8_ := Aside0.mk (hbox); have n9_ := Aside0.mk ((by rw [hg]; exact (below_size (by repeat (first | (with_reducible first | exact HB.out | apply below_alloc | apply pw_below_drewN | apply below_drew1 | refine below_set ?_ GE555.out | refine below_set ?_ GE556.out | refine below_set ?_ GE573.out | refine below_set ?_ GE601.out) | exact HB.out))) : w.heap.size ≤ gb614)); have n10_ := Aside0.mk ((by rw [hg]; exact (below_size (by repeat (first | (with_reducible first | exact HB.out | apply below_alloc | apply pw_below_drewN | apply below_drew1 | refine below_set ?_ GE555.out | refine below_set ?_ GE556.out | refine below_set ?_ GE573.out | refine below_set ?_ GE601.out) | exact HB.out))) : w.heap.size ≤ gb614)); have n11_ := Aside0.mk ((by rw [hg]; exact Nat.ne_of_lt (blk_lt (g := gb555) (o := .cells #[.int .i64 a0_0, .int .i64 a0_1, .int .i64 a0_2, .int .i64 a0_3, .int .i64 a0_4, .int .i64 a0_5, .int .i64 a0_6, .int .i64 a0_7] 23 (0, 0)) (by (with_reducible repeat (first | refine blk_drewN ?_ _ | refine blk_drew ?_ | refine blk_alloc ?_ _)); exact BK555.out)) : gb555 ≠ gb614)); have n12_ := Aside0.mk ((by rw [hg]; exact Nat.ne_of_gt (blk_lt (g := gb555) (o := .cells #[.int .i64 a0_0, .int .i64 a0_1, .int .i64 a0_2, .int .i64 a0_3, .int .i64 a0_4, .int .i64 a0_5, .int .i64 a0_6, .int .i64 a0_7] 23 (0, 0)) (by (with_reducible repeat (first | refine blk_drewN ?_ _ | refine blk_drew ?_ | refine blk_alloc ?_ _)); exact BK555.out)) : gb614 ≠ gb555)); have n13_ := Aside0.mk ((by rw [hg]; exact Nat.ne_of_lt (blk_lt (g := gb556) (o := .cells #[.int .i64 a1_0, .string a1_1, .string a1_2, .string a1_3, .int .i64 a1_4, .int .i64 a1_5, .int .i64 a1_6, .int .i64 a1_7, .bool a1_8, .slice A1_9 l1_9.length c1_9, .slice A1_10 l1_10.length c1_10] 41 (0, 0)) (by (with_reducible repeat (first | refine blk_drewN ?_ _ | refine blk_drew ?_ | refine blk_alloc ?_ _)); exact BK556.out)) : gb556 ≠ gb614)); have n14_ := Aside0.mk ((by rw [hg]; exact Nat.ne_of_gt (blk_lt (g := gb556) (o := .cells #[.int .i64 a1_0, .string a1_1, .string a1_2, .string a1_3, .int .i64 a1_4, .int .i64 a1_5, .int .i64 a1_6, .int .i64 a1_7, .bool a1_8, .slice A1_9 l1_9.length c1_9, .slice A1_10 l1_10.length c1_10] 41 (0, 0)) (by (with_reducible repeat (first | refine blk_drewN ?_ _ | refine blk_drew ?_ | refine blk_alloc ?_ _)); exact BK556.out)) : gb614 ≠ gb556)); have n15_ := Aside0.mk ((by rw [hg]; exact Nat.ne_of_lt (blk_lt (g := gb573) (o := .cells #[.int .i64 x574000_2, .int .i64 x574001_2, .int .i64 x574002_2, .int .i64 x574003_2, .int .i64 x574004_2, .int .i64 x574005_2, .int .i64 x574006_2, .int .i64 x574007_2, .slice Ao94 x574008_2.length co94] 36 (0, 0)) (by (with_reducible repeat (first | refine blk_drewN ?_ _ | refine blk_drew ?_ | refine blk_alloc ?_ _)); exact BK573.out)) : gb573 ≠ gb614)); have n16_ := Aside0.mk ((by rw [hg]; exact Nat.ne_of_gt (blk_lt (g := gb573) (o := .cells #[.int .i64 x574000_2, .int .i64 x574001_2, .int .i64 x574002_2, .int .i64 x574003_2, .int .i64 x574004_2, .int .i64 x574005_2, .int .i64 x574006_2, .int .i64 x574007_2, .slice Ao94 x574008_2.length co94] 36 (0, 0)) (by (with_reducible repeat (first | refine blk_drewN ?_ _ | refine blk_drew ?_ | refine blk_alloc ?_ _)); exact BK573.out)) : gb614 ≠ gb573)); have n17_ := Aside0.mk ((by rw [hg]; exact Nat.ne_of_lt (blk_lt (g := gb601) (o := .cells #[.int .i64 t589, .int .i64 t590, .int .i64 t591, .int .i64 t592, .int .i64 t593, .int .i64 t594, .int .i64 t595, .int .i64 t596, .slice Ao101 t597.length co101] 36 (0, 0)) (by (with_reducible repeat (first | refine blk_drewN ?_ _ | refine blk_drew ?_ | refine blk_alloc ?_ _)); exact BK601.out)) : gb601 ≠ gb614)); have n18_ := Aside0.mk ((by rw [hg]; exact Nat.ne_of_gt (blk_lt (g := gb601) (o := .cells #[.int .i64 t589, .int .i64 t590, .int .i64 t591, .int .i64 t592, .int .i64 t593, .int .i64 t594, .int .i64 t595, .int .i64 t596, .slice Ao101 t597.length co101] 36 (0, 0)) (by (with_reducible repeat (first | refine blk_drewN ?_ _ | refine blk_drew ?_ | refine blk_alloc ?_ _)); exact BK601.out)) : gb614 ≠ gb601)); clear HO_574008; clear HO599; clear HO612; clear BK555; clear BK556; clear BK573; clear BK601; clear HB; have HO_574008 := n0_; have HO599 := n1_; have HO612 := n2_; have BK555 := n3_; have BK556 := n4_; have BK573 := n5_; have BK601 := n6_; have HB := n7_; have BK614 := n8_; have GW614 := n9_; have GE614 := n10_; have NB555_614 := n11_; have NB614_555 := n12_; have NB556_614 := n13_; have NB614_556 := n14_; have NB573_614 := n15_; have NB614_573 := n16_; have NB601_614 := n17_; have NB614_601 := n18_; clear n0_ n1_ n2_ n3_ n4_ n5_ n6_ n7_ n8_ n9_ n10_ n11_ n12_ n13_ n14_ n15_ n16_ n17_ n18_; clear hb hbox hg; have hnb106 := NB614_555.out; have hnc106 := NB555_614.out; have hnb107 := NB614_556.out; have hnc107 := NB556_614.out; have hnb108 := NB614_573.out; have hnc108 := NB573_614.out; have hnb109 := NB614_601.out; have hnc109 := NB601_614.out; have hcz110_0 : w105.cell? ⟨gb614, 0, none⟩ = some (.int .i64 0) := (blk_cell BK614.out 0).trans rfl; have hcz110_1 : w105.cell? ⟨gb614, 1, none⟩ = some (.int .i64 0) := (blk_cell BK614.out 1).trans rfl; have hcz110_2 : w105.cell? ⟨gb614, 2, none⟩ = some (.int .i64 0) := (blk_cell BK614.out 2).trans rfl; have hcz110_3 : w105.cell? ⟨gb614, 3, none⟩ = some (.int .i64 0) := (blk_cell BK614.out 3).trans rfl; have hcz110_4 : w105.cell? ⟨gb614, 4, none⟩ = some (.int .i64 0) := (blk_cell BK614.out 4).trans rfl; have hcz110_5 : w105.cell? ⟨gb614, 5, none⟩ = some (.int .i64 0) := (blk_cell BK614.out 5).trans rfl; have hcz110_6 : w105.cell? ⟨gb614, 6, none⟩ = some (.int .i64 0) := (blk_cell BK614.out 6).trans rfl; have hcz110_7 : w105.cell? ⟨gb614, 7, none⟩ = some (.int .i64 0) := (blk_cell BK614.out 7).trans rfl; have hcz110_8 : w105.cell? ⟨gb614, 8, none⟩ = some (.slice none 0 0) := (blk_cell BK614.out 8).trans rfl; have hfz110_0 := blk_frozen BK614.out 0; have hfz110_1 := blk_frozen BK614.out 1; have hfz110_2 := blk_frozen BK614.out 2; have hfz110_3 := blk_frozen BK614.out 3; have hfz110_4 := blk_frozen BK614.out 4; have hfz110_5 := blk_frozen BK614.out 5; have hfz110_6 := blk_frozen BK614.out 6; have hfz110_7 := blk_frozen BK614.out 7; have hfz110_8 := blk_frozen BK614.out 8; obtain ⟨Ao111, co111, eo111⟩ := Kd.V_slice HO612.out; subst eo111) | ((with_reducible refine gate_store (t := 36) (p := 14) rfl ?_); refine store_event (t := 36) (p := 14) (v := ?vo_w112) (w1 := (((((((((w105.setCell ⟨gb614, 0, none⟩ (.int .i64 t602)).setCell ⟨gb614, 1, none⟩ (.int .i64 t603)).setCell ⟨gb614, 2, none⟩ (.int .i64 t604)).setCell ⟨gb614, 3, none⟩ (.int .i64 t605)).setCell ⟨gb614, 4, none⟩ (.int .i64 t606)).setCell ⟨gb614, 5, none⟩ (.int .i64 t607)).setCell ⟨gb614, 6, none⟩ (.int .i64 t608)).setCell ⟨gb614, 7, none⟩ (.int .i64 t609)).setCell ⟨gb614, 8, none⟩ (.slice Ao111 t610.length co111))) ?hg ?ho ?hn ?hr ?_; (case ho => rfl); (case hg => rfl); (case hn => rfl); (case hr => first | (go_simp; done) | (go_simp; rfl)); intro w112 hw; have n0_ : Aside0 (Kd.V k41 41 w112 w.heap.size (fun k_ => k_ ≠ gb555 ∧ k_ ≠ gb556 ∧ k_ ≠ gb573 ∧ k_ ≠ gb601 ∧ k_ ≠ gb614) (.slice Ao94 x574008_2.length co94) x574008_2) := ⟨(by rw [hw]; exact (by (with_reducible repeat (first | apply Kd.V_alloc | apply Kd.V_drewN | apply Kd.V_drew)); have zf860_ := Kd.V_mono HO_574008.out (fun k_ hk => (⟨hk, hk.2⟩ : _ ∧ k_ ≠ gb614)); exact Kd.V_mono ((V_thru8_ zf860_ (by intro zz_; repeat (first | with_reducible exact zz_ | with_reducible refine Kd.V_far ?_ (by first | exact (fun _ hk => hk.2)) _ | with_reducible refine Kd.V_drewN ?_ _ | with_reducible apply Kd.V_drew | with_reducible apply Kd.V_alloc)))) (fun _ hk => ⟨hk.1.1.1, ⟨hk.1.1.2.1, ⟨hk.1.1.2.2.1, ⟨hk.1.1.2.2.2, hk.1.2⟩⟩⟩⟩)))⟩; have n1_ : Aside0 (Kd.V k41 41 w112 w.heap.size (fun k_ => k_ ≠ gb555 ∧ k_ ≠ gb556 ∧ k_ ≠ gb573 ∧ k_ ≠ gb601 ∧ k_ ≠ gb614) (.slice Ao101 t597.length co101) t597) := ⟨(by rw [hw]; exact (by (with_reducible repeat (first | apply Kd.V_alloc | apply Kd.V_drewN | apply Kd.V_drew)); have zf870_ := Kd.V_mono HO599.out (fun k_ hk => (⟨hk, hk.2⟩ : _ ∧ k_ ≠ gb614)); exact Kd.V_mono ((V_thru8_ zf870_ (by intro zz_; repeat (first | with_reducible exact zz_ | with_reducible refine Kd.V_far ?_ (by first | exact (fun _ hk => hk.2)) _ | with_reducible refine Kd.V_drewN ?_ _ | with_reducible apply Kd.V_drew | with_reducible apply Kd.V_alloc)))) (fun _ hk => ⟨hk.1.1.1, ⟨hk.1.1.2.1, ⟨hk.1.1.2.2.1, ⟨hk.1.1.2.2.2, hk.1.2⟩⟩⟩⟩)))⟩; have n2_ : Aside0 (Kd.V k41 41 w112 w.heap.size (fun k_ => k_ ≠ gb555 ∧ k_ ≠ gb556 ∧ k_ ≠ gb573 ∧ k_ ≠ gb601 ∧ k_ ≠ gb614) (.slice Ao111 t610.length co111) t610) := ⟨(by rw [hw]; exact (by (with_reducible repeat (first | apply Kd.V_alloc | apply Kd.V_drewN | apply Kd.V_drew)); have zf880_ := Kd.V_mono HO612.out (fun k_ hk => (⟨hk, hk.2⟩ : _ ∧ k_ ≠ gb614)); exact Kd.V_mono ((V_thru8_ zf880_ (by intro zz_; repeat (first | with_reducible exact zz_ | with_reducible refine Kd.V_far ?_ (by first | exact (fun _ hk => hk.2)) _ | with_reducible refine Kd.V_drewN ?_ _ | with_reducible apply Kd.V_drew | with_reducible apply Kd.V_alloc)))) (fun _ hk => ⟨hk.1.1.1, ⟨hk.1.1.2.1, ⟨hk.1.1.2.2.1, ⟨hk.1.1.2.2.2, hk.1.2⟩⟩⟩⟩)))⟩; have n3_ : Aside0 (w112.heap[gb555]? = some (.cells #[.int .i64 a0_0, .int .i64 a0_1, .int .i64 a0_2, .int .i64 a0_3, .int .i64 a0_4, .int .i64 a0_5, .int .i64 a0_6, .int .i64 a0_7] 23 (0, 0))) := ⟨(by rw [hw]; exact (by (with_reducible repeat (first | refine blk_drewN ?_ _ | refine blk_drew ?_ | refine blk_alloc ?_ _)); (iterate 9 (refine blk_far ?_ NB555_614.out _; (with_reducible repeat (first | refine blk_drewN ?_ _ | refine blk_drew ?_ | refine blk_alloc ?_ _)))); exact BK555.out))⟩; have n4_ : Aside0 (w112.heap[gb556]? = some (.cells #[.int .i64 a1_0, .string a1_1, .string a1_2, .string a1_3, .int .i64 a1_4, .int .i64 a1_5, .int .i64 a1_6, .int .i64 a1_7, .bool a1_8, .slice A1_9 l1_9.length c1_9, .slice A1_10 l1_10.length c1_10] 41 (0, 0))) := ⟨(by rw [hw]; exact (by (with_reducible repeat (first | refine blk_drewN ?_ _ | refine blk_drew ?_ | refine blk_alloc ?_ _)); (iterate 9 (refine blk_far ?_ NB556_614.out _; (with_reducible repeat (first | refine blk_drewN ?_ _ | refine blk_drew ?_ | refine blk_alloc ?_ _)))); exact BK556.out))⟩; have n5_ : Aside0 (w112.heap[gb573]? = some (.cells #[.int .i64 x574000_2, .int .i64 x574001_2, .int .i64 x574002_2, .int .i64 x574003_2, .int .i64 x574004_2, .int .i64 x574005_2, .int .i64 x574006_2, .int .i64 x574007_2, .slice Ao94 x574008_2.length co94] 36 (0, 0))) := ⟨(by rw [hw]; exact (by (with_reducible repeat (first | refine blk_drewN ?_ _ | refine blk_drew ?_ | refine blk_alloc ?_ _)); (iterate 9 (refine blk_far ?_ NB573_614.out _; (with_reducible repeat (first | refine blk_drewN ?_ _ | refine blk_drew ?_ | refine blk_alloc ?_ _)))); exact BK573.out))⟩; have n6_ : Aside0 (w112.heap[gb601]? = some (.cells #[.int .i64 t589, .int .i64 t590, .int .i64 t591, .int .i64 t592, .int .i64 t593, .int .i64 t594, .int .i64 t595, .int .i64 t596, .slice Ao101 t597.length co101] 36 (0, 0))) := ⟨(by rw [hw]; exact (by (with_reducible repeat (first | refine blk_drewN ?_ _ | refine blk_drew ?_ | refine blk_alloc ?_ _)); (iterate 9 (refine blk_far ?_ NB601_614.out _; (with_reducible repeat (first | refine blk_drewN ?_ _ | refine blk_drew ?_ | refine blk_alloc ?_ _)))); exact BK601.out))⟩; have n7_ : Aside0 (w112.heap[gb614]? = some (.cells #[.int .i64 t602, .int .i64 t603, .int .i64 t604, .int .i64 t605, .int .i64 t606, .int .i64 t607, .int .i64 t608, .int .i64 t609, .slice Ao111 t610.length co111] 36 (0, 0))) := ⟨(by rw [hw]; exact (by (with_reducible repeat (first | refine blk_drewN ?_ _ | refine blk_drew ?_ | refine blk_alloc ?_ _)); refine blk_put (cs := #[.int .i64 t602, .int .i64 t603, .int .i64 t604, .int .i64 t605, .int .i64 t606, .int .i64 t607, .int .i64 t608, .int .i64 t609, .slice none 0 0]) ?_ 8 _ rfl; (with_reducible repeat (first | refine blk_drewN ?_ _ | refine blk_drew ?_ | refine blk_alloc ?_ _)); refine blk_put (cs := #[.int .i64 t602, .int .i64 t603, .int .i64 t604, .int .i64 t605, .int .i64 t606, .int .i64 t607, .int .i64 t608, .int .i64 0, .slice none 0 0]) ?_ 7 _ rfl; (with_reducible repeat (first | refine blk_drewN ?_ _ | refine blk_drew ?_ | refine blk_alloc ?_ _)); refine blk_put (cs := #[.int .i64 t602, .int .i64 t603, .int .i64 t604, .int .i64 t605, .int .i64 t606, .int .i64 t607, .int .i64 0, .int .i64 0, .slice none 0 0]) ?_ 6 _ rfl; (with_reducible repeat (first | refine blk_drewN ?_ _ | refine blk_drew ?_ | refine blk_alloc ?_ _)); refine blk_put (cs := #[.int .i64 t602, .int .i64 t603, .int .i64 t604, .int .i64 t605, .int .i64 t606, .int .i64 0, .int .i64 0, .int .i64 0, .slice none 0 0]) ?_ 5 _ rfl; (with_reducible repeat (first | refine blk_drewN ?_ _ | refine blk_drew ?_ | refine blk_alloc ?_ _)); refine blk_put (cs := #[.int .i64 t602, .int .i64 t603, .int .i64 t604, .int .i64 t605, .int .i64 0, .int .i64 0, .int .i64 0, .int .i64 0, .slice none 0 0]) ?_ 4 _ rfl; (with_reducible repeat (first | refine blk_drewN ?_ _ | refine blk_drew ?_ | refine blk_alloc ?_ _)); refine blk_put (cs := #[.int .i64 t602, .int .i64 t603, .int .i64 t604, .int .i64 0, .int .i64 0, .int .i64 0, .int .i64 0, .int .i64 0, .slice none 0 0]) ?_ 3 _ rfl; (with_reducible repeat (first | refine blk_drewN ?_ _ | refine blk_drew ?_ | refine blk_alloc ?_ _)); refine blk_put (cs := #[.int .i64 t602, .int .i64 t603, .int .i64 0, .int .i64 0, .int .i64 0, .int .i64 0, .int .i64 0, .int .i64 0, .slice none 0 0]) ?_ 2 _ rfl; (with_reducible repeat (first | refine blk_drewN ?_ _ | refine blk_drew ?_ | refine blk_alloc ?_ _)); refine blk_put (cs := #[.int .i64 t602, .int .i64 0, .int .i64 0, .int .i64 0, .int .i64 0, .int .i64 0, .int .i64 0, .int .i64 0, .slice none 0 0]) ?_ 1 _ rfl; (with_reducible repeat (first | refine blk_drewN ?_ _ | refine blk_drew ?_ | refine blk_alloc ?_ _)); refine blk_put (cs := #[.int .i64 0, .int .i64 0, .int .i64 0, .int .i64 0, .int .i64 0, .int .i64 0, .int .i64 0, .int .i64 0, .slice none 0 0]) ?_ 0 _ rfl; (with_reducible repeat (first | refine blk_drewN ?_ _ | refine blk_drew ?_ | refine blk_alloc ?_ _)); exact BK614.out))⟩; have n8_ : Aside0 (Below w.heap.size w w112) := ⟨(by rw [hw]; exact (by repeat (first | (with_reducible first | exact HB.out | apply below_alloc | apply pw_below_drewN | apply below_drew1 | refine below_set ?_ GE555.out | refine below_set ?_ GE556.out | refine below_set ?_ GE573.out | refine below_set ?_ GE601.out | refine below_set ?_ GE614.out) | exact HB.out)))⟩; clear hw; clear HO_574008; clear HO599; clear HO612; clear BK555; clear BK556; clear BK573; clear BK601; clear BK614; clear HB; have HO_574008 := n0_; have HO599 := n1_; have HO612 := n2_; have BK555 := n3_; have BK556 := n4_; have BK573 := n5_; have BK601 := n6_; have BK614 := n7_; have HB := n8_; clear n0_ n1_ n2_ n3_ n4_ n5_ n6_ n7_ n8_) | ((with_reducible refine gate_callee (f := 9) rfl ?_); refine goesL_ (some 82) rfl rfl Try.func9 (by kernel_rfl) rfl #[.int .i64 t600] rfl (by (try simp only [List.map_toArray, List.map_cons, List.map_nil]); first | done | rfl | (simp only [List.length_drop, List.length_take]; rfl)) ?_; (with_reducible refine (wharflaw19_num.calls t600 t615 _ A81.out).mono ?_); rintro e w' ⟨rfl, ⟨nd, rfl⟩⟩; refine ⟨_, rfl, ?_⟩) | (go_at_call 9; (with_reducible refine (wharflaw19_num.calls t613 t616 _ A83.out).mono ?_); rintro e w' ⟨rfl, ⟨nd, rfl⟩⟩; have hcz113_0 : w112.cell? ⟨gb614, 0, none⟩ = some (.int .i64 t602) := (blk_cell BK614.out 0).trans rfl; have hcz113_1 : w112.cell? ⟨gb614, 1, none⟩ = some (.int .i64 t603) := (blk_cell BK614.out 1).trans rfl; have hcz113_2 : w112.cell? ⟨gb614, 2, none⟩ = some (.int .i64 t604) := (blk_cell BK614.out 2).trans rfl; have hcz113_3 : w112.cell? ⟨gb614, 3, none⟩ = some (.int .i64 t605) := (blk_cell BK614.out 3).trans rfl; have hcz113_4 : w112.cell? ⟨gb614, 4, none⟩ = some (.int .i64 t606) := (blk_cell BK614.out 4).trans rfl; have hcz113_5 : w112.cell? ⟨gb614, 5, none⟩ = some (.int .i64 t607) := (blk_cell BK614.out 5).trans rfl; have hcz113_6 : w112.cell? ⟨gb614, 6, none⟩ = some (.int .i64 t608) := (blk_cell BK614.out 6).trans rfl; have hcz113_7 : w112.cell? ⟨gb614, 7, none⟩ = some (.int .i64 t609) := (blk_cell BK614.out 7).trans rfl; have hcz113_8 : w112.cell? ⟨gb614, 8, none⟩ = some (.slice Ao111 t610.length co111) := (blk_cell BK614.out 8).trans rfl; have hfz113_0 := blk_frozen BK614.out 0; have hfz113_1 := blk_frozen BK614.out 1; have hfz113_2 := blk_frozen BK614.out 2; have hfz113_3 := blk_frozen BK614.out 3; have hfz113_4 := blk_frozen BK614.out 4; have hfz113_5 := blk_frozen BK614.out 5; have hfz113_6 := blk_frozen BK614.out 6; have hfz113_7 := blk_frozen BK614.out 7; have hfz113_8 := blk_frozen BK614.out 8; have p617 : 0 ≤ (0 : Int) := (by omega); have q617 : 0 < (t610.length : Int) := of_decide_eq_true (by first | (with_reducible assumption) | assumption); obtain ⟨ad617, A617_9, c617_9, A617_10, c617_10, e617, hx617_0, hx617_1, hx617_2, hx617_3, hx617_4, hx617_5, hx617_6, hx617_7, hx617_8, hx617_9, hx617_10, hl617_9, hi617_9, hl617_10, hi617_10⟩ := at_T41 (Kd.V_reads' HO612.out).2.2 0 p617 q617; cases e617; obtain ⟨ce617, hce617, hMe617, hcc617⟩ := Kd.V_get HO612.out z41 0 p617 (by first | exact q617 | exact of_decide_eq_true (by first | (with_reducible assumption) | assumption) | (have e_ := (Kd.V_reads' HO612.out).1; omega)); obtain ⟨ua617_9, uc617_9, ua617_10, uc617_10, rfl, ul617_9, ge617_9, ul617_10, ge617_10⟩ := k41_openF hMe617; have hv617_9 := hcc617 9 _ rfl; rw [add_field _ _ 9 (by omega)] at hv617_9; replace hv617_9 := Option.some.inj (hv617_9.symm.trans hx617_9); injection hv617_9 with hva_ hvn_ hvc_; rw [hva_] at ge617_9; rw [hvc_] at ul617_9; have HL617_9 := Aside0.mk (show Kd.V k69 69 _ w.heap.size _ _ ((rd_T41 t610 0).f9) from Kd.V_mk ul617_9 ge617_9); clear hva_ hvn_ hvc_ ge617_9 ul617_9; have hv617_10 := hcc617 10 _ rfl; rw [add_field _ _ 10 (by omega)] at hv617_10; replace hv617_10 := Option.some.inj (hv617_10.symm.trans hx617_10); injection hv617_10 with hva_ hvn_ hvc_; rw [hva_] at ge617_10; rw [hvc_] at ul617_10; have HL617_10 := Aside0.mk (show Kd.V (Kd.int .i64) 3 _ w.heap.size _ _ ((rd_T41 t610 0).f10) from Kd.V_mk ul617_10 ge617_10); clear hva_ hvn_ hvc_ ge617_10 ul617_10; clear hcc617 hce617; have qi617 : (0 < t610.length) = True := eq_true (by omega); (try rw [show ((0 : Int)).toNat = 0 from rfl] at hx617_0); (try rw [show 0 * 11 = 0 from rfl] at hx617_0); (try rw [Addr.add_zero'] at hx617_0); (try rw [show ((0 : Int)).toNat = 0 from rfl] at hx617_1); (try rw [show 0 * 11 = 0 from rfl] at hx617_1); (try rw [Addr.add_zero'] at hx617_1); (try rw [show ((0 : Int)).toNat = 0 from rfl] at hx617_2); (try rw [show 0 * 11 = 0 from rfl] at hx617_2); (try rw [Addr.add_zero'] at hx617_2); (try rw [show ((0 : Int)).toNat = 0 from rfl] at hx617_3); (try rw [show 0 * 11 = 0 from rfl] at hx617_3); (try rw [Addr.add_zero'] at hx617_3); (try rw [show ((0 : Int)).toNat = 0 from rfl] at hx617_4); (try rw [show 0 * 11 = 0 from rfl] at hx617_4); (try rw [Addr.add_zero'] at hx617_4); (try rw [show ((0 : Int)).toNat = 0 from rfl] at hx617_5); (try rw [show 0 * 11 = 0 from rfl] at hx617_5); (try rw [Addr.add_zero'] at hx617_5); (try rw [show ((0 : Int)).toNat = 0 from rfl] at hx617_6); (try rw [show 0 * 11 = 0 from rfl] at hx617_6); (try rw [Addr.add_zero'] at hx617_6); (try rw [show ((0 : Int)).toNat = 0 from rfl] at hx617_7); (try rw [show 0 * 11 = 0 from rfl] at hx617_7); (try rw [Addr.add_zero'] at hx617_7); (try rw [show ((0 : Int)).toNat = 0 from rfl] at hx617_8); (try rw [show 0 * 11 = 0 from rfl] at hx617_8); (try rw [Addr.add_zero'] at hx617_8); (try rw [show ((0 : Int)).toNat = 0 from rfl] at hx617_9); (try rw [show 0 * 11 = 0 from rfl] at hx617_9); (try rw [Addr.add_zero'] at hx617_9); (try rw [show ((0 : Int)).toNat = 0 from rfl] at hx617_10); (try rw [show 0 * 11 = 0 from rfl] at hx617_10); (try rw [Addr.add_zero'] at hx617_10); have HR617_9 := Aside0.mk hi617_9; have HC617_9 := Aside0.mk hl617_9; clear hi617_9 hl617_9; have HR617_10 := Aside0.mk hi617_10; have HC617_10 := Aside0.mk hl617_10; clear hi617_10 hl617_10; replace p617 := eq_true p617; replace q617 := eq_true q617) | (go_at_call 13; (with_reducible refine (wharflaw19_live.calls k2  t618 _ A88.out).mono ?_); rintro e w114 ⟨rfl, hb⟩; have n0_ := Aside0.mk (Kd.V_below (by (with_reducible repeat (first | apply Kd.V_alloc | apply Kd.V_drewN | apply Kd.V_drew)); exact HO_574008.out) hb); have n1_ := Aside0.mk (Kd.V_below (by (with_reducible repeat (first | apply Kd.V_alloc | apply Kd.V_drewN | apply Kd.V_drew)); exact HO599.out) hb); have n2_ := Aside0.mk (Kd.V_below (by (with_reducible repeat (first | apply Kd.V_alloc | apply Kd.V_drewN | apply Kd.V_drew)); exact HO612.out) hb); have n3_ := Aside0.mk (Kd.V_below (by (with_reducible repeat (first | apply Kd.V_alloc | apply Kd.V_drewN | apply Kd.V_drew)); exact HL617_9.out) hb); have n4_ := Aside0.mk (Kd.V_below (by (with_reducible repeat (first | apply Kd.V_alloc | apply Kd.V_drewN | apply Kd.V_drew)); exact HL617_10.out) hb); have n5_ := Aside0.mk (blk_below (g := gb555) (o := .cells #[.int .i64 a0_0, .int .i64 a0_1, .int .i64 a0_2, .int .i64 a0_3, .int .i64 a0_4, .int .i64 a0_5, .int .i64 a0_6, .int .i64 a0_7] 23 (0, 0)) (by (with_reducible repeat (first | refine blk_drewN ?_ _ | refine blk_drew ?_ | refine blk_alloc ?_ _)); exact BK555.out) hb); have n6_ := Aside0.mk (blk_below (g := gb556) (o := .cells #[.int .i64 a1_0, .string a1_1, .string a1_2, .string a1_3, .int .i64 a1_4, .int .i64 a1_5, .int .i64 a1_6, .int .i64 a1_7, .bool a1_8, .slice A1_9 l1_9.length c1_9, .slice A1_10 l1_10.length c1_10] 41 (0, 0)) (by (with_reducible repeat (first | refine blk_drewN ?_ _ | refine blk_drew ?_ | refine blk_alloc ?_ _)); exact BK556.out) hb); have n7_ := Aside0.mk (blk_below (g := gb573) (o := .cells #[.int .i64 x574000_2, .int .i64 x574001_2, .int .i64 x574002_2, .int .i64 x574003_2, .int .i64 x574004_2, .int .i64 x574005_2, .int .i64 x574006_2, .int .i64 x574007_2, .slice Ao94 x574008_2.length co94] 36 (0, 0)) (by (with_reducible repeat (first | refine blk_drewN ?_ _ | refine blk_drew ?_ | refine blk_alloc ?_ _)); exact BK573.out) hb); have n8_ := Aside0.mk (blk_below (g := gb601) (o := .cells #[.int .i64 t589, .int .i64 t590, .int .i64 t591, .int .i64 t592, .int .i64 t593, .int .i64 t594, .int .i64 t595, .int .i64 t596, .slice Ao101 t597.length co101] 36 (0, 0)) (by (with_reducible repeat (first | refine blk_drewN ?_ _ | refine blk_drew ?_ | refine blk_alloc ?_ _)); exact BK601.out) hb); have n9_ := Aside0.mk (blk_below (g := gb614) (o := .cells #[.int .i64 t602, .int .i64 t603, .int .i64 t604, .int .i64 t605, .int .i64 t606, .int .i64 t607, .int .i64 t608, .int .i64 t609, .slice (some ad617) t610.length co111] 36 (0, 0)) (by (with_reducible repeat (first | refine blk_drewN ?_ _ | refine blk_drew ?_ | refine blk_alloc ?_ _)); exact BK614.out) hb); have n10_ := Aside0.mk (Kd.C_below (by first | (with_reducible exact HR617_9.out) | (with_reducible exact Kd.C_drewN HR617_9.out _) | repeat (first | (with_reducible exact HR617_9.out) | (with_reducible refine Kd.C_alloc ?_ _) | (with_reducible refine Kd.C_drewN ?_ _) | (with_reducible refine Kd.C_drew ?_) | exact HR617_9.out)) hb); have n11_ := Aside0.mk (Kd.C_below (by first | (with_reducible exact HR617_10.out) | (with_reducible exact Kd.C_drewN HR617_10.out _) | repeat (first | (with_reducible exact HR617_10.out) | (with_reducible refine Kd.C_alloc ?_ _) | (with_reducible refine Kd.C_drewN ?_ _) | (with_reducible refine Kd.C_drew ?_) | exact HR617_10.out)) hb); have n12_ := Aside0.mk (below_step (by repeat (first | (with_reducible first | exact HB.out | apply below_alloc | apply pw_below_drewN | apply below_drew1 | refine below_set ?_ GE555.out | refine below_set ?_ GE556.out | refine below_set ?_ GE573.out | refine below_set ?_ GE601.out | refine below_set ?_ GE614.out) | exact HB.out)) hb); clear HO_574008; clear HO599; clear HO612; clear HL617_9; clear HL617_10; clear BK555; clear BK556; clear BK573; clear BK601; clear BK614; clear HR617_9; clear HR617_10; clear HB; have HO_574008 := n0_; have HO599 := n1_; have HO612 := n2_; have HL617_9 := n3_; have HL617_10 := n4_; have BK555 := n5_; have BK556 := n6_; have BK573 := n7_; have BK601 := n8_; have BK614 := n9_; have HR617_9 := n10_; have HR617_10 := n11_; have HB := n12_; clear n0_ n1_ n2_ n3_ n4_ n5_ n6_ n7_ n8_ n9_ n10_ n11_ n12_; (try clear hb); (try clear hb2); (try clear hk); (try clear hi)))
             go_ret
             exact ⟨by first | rfl | (simp [errW_none, errW_some] <;> rfl) | (simp [*, errW_none, errW_some] <;> rfl), by repeat (first | (with_reducible first | exact HB.out | apply below_alloc | apply pw_below_drewN | apply below_drew1 | refine below_set ?_ GE555.out | refine below_set ?_ GE556.out | refine below_set ?_ GE573.out | refine below_set ?_ GE601.out | refine below_set ?_ GE614.out) | exact HB.out)⟩
            ·
             rw [if_neg c87] at H
             have c87b0 : (((rd_T41 t610 0).f5) == a2) = false := beq_eq_false_iff_ne.mpr c87
             have c87b1 : (((rd_T41 t610 0).f5) != a2) = true := bne_iff_ne.mpr c87
             exact absurd (Option.some.inj H) (by rw [HT_.out]; exact Bool.false_ne_true)
           ·
            rw [if_neg c86] at H
            exact absurd H (by simp)
          ·
           rw [if_neg c85] at H
           have c85b0 : ((t610.length : Int) == 16) = false := beq_eq_false_iff_ne.mpr c85
           have c85b1 : ((t610.length : Int) != 16) = true := bne_iff_ne.mpr c85
           exact absurd (Option.some.inj H) (by rw [HT_.out]; exact Bool.false_ne_true)
         ·
          rw [if_neg c84] at H
          have c84b0 : (t616 == 0) = false := beq_eq_false_iff_ne.mpr c84
          have c84b1 : (t616 != 0) = true := bne_iff_ne.mpr c84
          exact absurd (Option.some.inj H) (by rw [HT_.out]; exact Bool.false_ne_true)
        ·
         rw [if_neg c82] at H
         have c82b0 : (t615 == 5) = false := beq_eq_false_iff_ne.mpr c82
         have c82b1 : (t615 != 5) = true := bne_iff_ne.mpr c82
         exact absurd (Option.some.inj H) (by rw [HT_.out]; exact Bool.false_ne_true)
    ·
     rw [if_neg c52] at H
     have c52b0 : (t574 == 0) = false := beq_eq_false_iff_ne.mpr c52
     have c52b1 : (t574 != 0) = true := bne_iff_ne.mpr c52
     exact absurd (Option.some.inj H) (by rw [HT_.out]; exact Bool.false_ne_true)

end Go.Proofs.Ytbeclnffcapfpaa.H
