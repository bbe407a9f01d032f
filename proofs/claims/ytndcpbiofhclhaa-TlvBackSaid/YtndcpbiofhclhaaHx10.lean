-- written by hp.py for this claim, out of the kit's printer and texts of my own
import Derived.Test.YtndcpbiofhclhaaHx0
import Derived.Test.YtndcpbiofhclhaaHx22
import Derived.Test.YtndcpbiofhclhaaHx23
import Derived.Test.YtndcpbiofhclhaaHx25
import Derived.Test.YtndcpbiofhclhaaHx27
import Derived.Test.YtndcpbiofhclhaaHx29
import Derived.Test.YtndcpbiofhclhaaHx30
import Derived.Test.YtndcpbiofhclhaaHx32
import Derived.Test.YtndcpbiofhclhaaHx36
import Derived.Test.YtndcpbiofhclhaaHx37
import Derived.Test.YtndcpbiofhclhaaHx38
namespace Go.Proofs.Ytndcpbiofhclhaa.H
open Go.RowKit Go.Proofs.YtndcpbiofhclhaaW.PrintWords Go.Proofs.YtndcpbiofhclhaaW.PrintLast Go.Proofs.YtndcpbiofhclhaaW.PrintMore
attribute [local go_sem] max2_int min2_int max_two min_two max_three min_three max_four min_four   -- for this text's walks alone
set_option linter.unusedVariables false
set_option linter.unusedSimpArgs false

/-! ### wharflaw11_TlvBack: function 10 -/
mutual
def wharflaw11_TlvBack.j0 : Nat → Int → Int → List (S75) → ByteArray → ByteArray → Int → Bool → Option (Bool)
  | 0, _, _, _, _, _, _, _ => none
  | k + 1, x0, x1, x2, x3, x4, x5, x39 => if x39 = true then ((wharflaw11_live.f k).bind fun t366 => (some t366)) else ((tlv_Int.f x0 x1).bind fun bt367 => ((tlv_Num.f k bt367.1).bind fun bt369 => ((wharflaw11_num.f bt367.2).bind fun t371 => (if t371 = 0 then ((wharflaw11_num.f bt369.2).bind fun t372 => (if t372 = 0 then (if bt369.1 = x0 then (wharflaw11_TlvBack.j1 k x1 x2 x3 x4 x5 ((bt367.1.size : Int) != x1)) else (wharflaw11_TlvBack.j1 k x1 x2 x3 x4 x5 true)) else (wharflaw11_TlvBack.j1 k x1 x2 x3 x4 x5 true))) else (wharflaw11_TlvBack.j1 k x1 x2 x3 x4 x5 false)))))
def wharflaw11_TlvBack.j1 : Nat → Int → List (S75) → ByteArray → ByteArray → Int → Bool → Option (Bool)
  | 0, _, _, _, _, _, _ => none
  | k + 1, x1, x2, x3, x4, x5, x70 => if x70 = true then (some false) else ((tlv_Put.f k x2).bind fun bt373 => ((tlv_Parse.f bt373.1).bind fun bt375 => ((wharflaw11_num.f bt373.2).bind fun t379 => (if t379 = 0 then ((wharflaw11_num.f bt375.2).bind fun t380 => (if t380 = 0 then ((wharfref11_Same.f k bt375.1 x2).bind fun t381 => (wharflaw11_TlvBack.j2 k x1 x3 x4 x5 (!t381))) else (wharflaw11_TlvBack.j2 k x1 x3 x4 x5 true))) else (wharflaw11_TlvBack.j2 k x1 x3 x4 x5 false)))))
def wharflaw11_TlvBack.j2 : Nat → Int → ByteArray → ByteArray → Int → Bool → Option (Bool)
  | 0, _, _, _, _, _ => none
  | k + 1, x1, x3, x4, x5, x94 => if x94 = true then (some false) else ((tlv_Text.f x3 x1).bind fun bt382 => ((wharflaw11_num.f bt382.2).bind fun t384 => (if t384 = 0 then (if bt382.1.size + x4.size ≤ 9223372036854775807 then ((tlv_First.f k (bt382.1 ++ x4) x1).bind fun bt386 => ((wharflaw11_num.f bt386.2.2).bind fun t389 => (if t389 = 0 then (if bt386.1.toList = x3.toList then (wharflaw11_TlvBack.j3 k x1 x5 bt382.1 (bt386.2.1.toList != x4.toList)) else (wharflaw11_TlvBack.j3 k x1 x5 bt382.1 true)) else (wharflaw11_TlvBack.j3 k x1 x5 bt382.1 true)))) else (none)) else ((wharflaw11_live.f k).bind fun t385 => (some t385)))))
def wharflaw11_TlvBack.j3 : Nat → Int → Int → ByteArray → Bool → Option (Bool)
  | 0, _, _, _, _ => none
  | k + 1, x1, x5, x21, x126 => if x126 = true then (some false) else (if x5 < 0 then (wharflaw11_TlvBack.j4 k x1 x5 x21 true) else (wharflaw11_TlvBack.j4 k x1 x5 x21 (decide (x5 ≥ (x21.size : Int)))))
def wharflaw11_TlvBack.j4 : Nat → Int → Int → ByteArray → Bool → Option (Bool)
  | 0, _, _, _, _ => none
  | k + 1, x1, x5, x21, x134 => if x134 = true then ((wharflaw11_live.f k).bind fun t390 => (some t390)) else (if 0 ≤ x5 then (if x5 ≤ (x21.size : Int) then ((tlv_First.f k (x21.extract 0 (x5 : Int).toNat) x1).bind fun bt391 => ((wharflaw11_num.f bt391.2.2).bind fun t394 => (if t394 = 110 then ((wharflaw11_live.f k).bind fun t395 => (some t395)) else (some false)))) else (none)) else (none))
end
def wharflaw11_TlvBack.f (k : Nat) (a0 : Int) (a1 : Int) (l2 : List (S75)) (a3 : ByteArray) (a4 : ByteArray) (a5 : Int) : Option (Bool) := (wharflaw11_small.f k l2).bind fun t365 => (if t365 = true then (wharflaw11_TlvBack.j0 k a0 a1 l2 a3 a4 a5 (decide ((wrap64 ((a3.size : Int) + (a4.size : Int))) > 5000))) else (wharflaw11_TlvBack.j0 k a0 a1 l2 a3 a4 a5 true))
theorem wharflaw11_TlvBack.mono_l : ∀ k, (∀ y0 y1 y2 y3 y4 y5 y6, LeO (wharflaw11_TlvBack.j0 k y0 y1 y2 y3 y4 y5 y6) (wharflaw11_TlvBack.j0 (k + 1) y0 y1 y2 y3 y4 y5 y6)) ∧ (∀ y0 y1 y2 y3 y4 y5, LeO (wharflaw11_TlvBack.j1 k y0 y1 y2 y3 y4 y5) (wharflaw11_TlvBack.j1 (k + 1) y0 y1 y2 y3 y4 y5)) ∧ (∀ y0 y1 y2 y3 y4, LeO (wharflaw11_TlvBack.j2 k y0 y1 y2 y3 y4) (wharflaw11_TlvBack.j2 (k + 1) y0 y1 y2 y3 y4)) ∧ (∀ y0 y1 y2 y3, LeO (wharflaw11_TlvBack.j3 k y0 y1 y2 y3) (wharflaw11_TlvBack.j3 (k + 1) y0 y1 y2 y3)) ∧ (∀ y0 y1 y2 y3, LeO (wharflaw11_TlvBack.j4 k y0 y1 y2 y3) (wharflaw11_TlvBack.j4 (k + 1) y0 y1 y2 y3))
  | 0 => ⟨fun _ _ _ _ _ _ _ r h => by simp [wharflaw11_TlvBack.j0] at h, fun _ _ _ _ _ _ r h => by simp [wharflaw11_TlvBack.j1] at h, fun _ _ _ _ _ r h => by simp [wharflaw11_TlvBack.j2] at h, fun _ _ _ _ r h => by simp [wharflaw11_TlvBack.j3] at h, fun _ _ _ _ r h => by simp [wharflaw11_TlvBack.j4] at h⟩
  | k + 1 => by
    obtain ⟨ih0, ih1, ih2, ih3, ih4⟩ := wharflaw11_TlvBack.mono_l k
    refine ⟨?_, ?_, ?_, ?_, ?_⟩
    · intro y0 y1 y2 y3 y4 y5 y6
      unfold wharflaw11_TlvBack.j0
      repeat' first
      | (with_reducible exact ih0 _ _ _ _ _ _ _)
      | (with_reducible exact ih1 _ _ _ _ _ _)
      | (with_reducible exact ih2 _ _ _ _ _)
      | (with_reducible exact ih3 _ _ _ _)
      | (with_reducible exact ih4 _ _ _ _)
      | (with_reducible exact tlv_First.mono _ _ _)
      | (with_reducible exact tlv_Num.mono _ _)
      | (with_reducible exact tlv_Put.mono _ _)
      | (with_reducible exact wharflaw11_live.mono _)
      | (with_reducible exact wharflaw11_small.mono _ _)
      | (with_reducible exact wharfref11_Same.mono _ _ _)
      | (with_reducible exact LeO.refl _)
      | (with_reducible exact LeO.none _)
      | (with_reducible refine LeO.ite ?_ ?_)
      | (with_reducible refine LeO.bind ?_ (fun _ => ?_))
      | exact ih0 _ _ _ _ _ _ _
      | exact ih1 _ _ _ _ _ _
      | exact ih2 _ _ _ _ _
      | exact ih3 _ _ _ _
      | exact ih4 _ _ _ _
      | exact tlv_First.mono _ _ _
      | exact tlv_Num.mono _ _
      | exact tlv_Put.mono _ _
      | exact wharflaw11_live.mono _
      | exact wharflaw11_small.mono _ _
      | exact wharfref11_Same.mono _ _ _
      | exact LeO.none _
      | refine LeO.ite ?_ ?_
      | refine LeO.bind ?_ (fun _ => ?_)
    · intro y0 y1 y2 y3 y4 y5
      unfold wharflaw11_TlvBack.j1
      repeat' first
      | (with_reducible exact ih0 _ _ _ _ _ _ _)
      | (with_reducible exact ih1 _ _ _ _ _ _)
      | (with_reducible exact ih2 _ _ _ _ _)
      | (with_reducible exact ih3 _ _ _ _)
      | (with_reducible exact ih4 _ _ _ _)
      | (with_reducible exact tlv_First.mono _ _ _)
      | (with_reducible exact tlv_Num.mono _ _)
      | (with_reducible exact tlv_Put.mono _ _)
      | (with_reducible exact wharflaw11_live.mono _)
      | (with_reducible exact wharflaw11_small.mono _ _)
      | (with_reducible exact wharfref11_Same.mono _ _ _)
      | (with_reducible exact LeO.refl _)
      | (with_reducible exact LeO.none _)
      | (with_reducible refine LeO.ite ?_ ?_)
      | (with_reducible refine LeO.bind ?_ (fun _ => ?_))
      | exact ih0 _ _ _ _ _ _ _
      | exact ih1 _ _ _ _ _ _
      | exact ih2 _ _ _ _ _
      | exact ih3 _ _ _ _
      | exact ih4 _ _ _ _
      | exact tlv_First.mono _ _ _
      | exact tlv_Num.mono _ _
      | exact tlv_Put.mono _ _
      | exact wharflaw11_live.mono _
      | exact wharflaw11_small.mono _ _
      | exact wharfref11_Same.mono _ _ _
      | exact LeO.none _
      | refine LeO.ite ?_ ?_
      | refine LeO.bind ?_ (fun _ => ?_)
    · intro y0 y1 y2 y3 y4
      unfold wharflaw11_TlvBack.j2
      repeat' first
      | (with_reducible exact ih0 _ _ _ _ _ _ _)
      | (with_reducible exact ih1 _ _ _ _ _ _)
      | (with_reducible exact ih2 _ _ _ _ _)
      | (with_reducible exact ih3 _ _ _ _)
      | (with_reducible exact ih4 _ _ _ _)
      | (with_reducible exact tlv_First.mono _ _ _)
      | (with_reducible exact tlv_Num.mono _ _)
      | (with_reducible exact tlv_Put.mono _ _)
      | (with_reducible exact wharflaw11_live.mono _)
      | (with_reducible exact wharflaw11_small.mono _ _)
      | (with_reducible exact wharfref11_Same.mono _ _ _)
      | (with_reducible exact LeO.refl _)
      | (with_reducible exact LeO.none _)
      | (with_reducible refine LeO.ite ?_ ?_)
      | (with_reducible refine LeO.bind ?_ (fun _ => ?_))
      | exact ih0 _ _ _ _ _ _ _
      | exact ih1 _ _ _ _ _ _
      | exact ih2 _ _ _ _ _
      | exact ih3 _ _ _ _
      | exact ih4 _ _ _ _
      | exact tlv_First.mono _ _ _
      | exact tlv_Num.mono _ _
      | exact tlv_Put.mono _ _
      | exact wharflaw11_live.mono _
      | exact wharflaw11_small.mono _ _
      | exact wharfref11_Same.mono _ _ _
      | exact LeO.none _
      | refine LeO.ite ?_ ?_
      | refine LeO.bind ?_ (fun _ => ?_)
    · intro y0 y1 y2 y3
      unfold wharflaw11_TlvBack.j3
      repeat' first
      | (with_reducible exact ih0 _ _ _ _ _ _ _)
      | (with_reducible exact ih1 _ _ _ _ _ _)
      | (with_reducible exact ih2 _ _ _ _ _)
      | (with_reducible exact ih3 _ _ _ _)
      | (with_reducible exact ih4 _ _ _ _)
      | (with_reducible exact tlv_First.mono _ _ _)
      | (with_reducible exact tlv_Num.mono _ _)
      | (with_reducible exact tlv_Put.mono _ _)
      | (with_reducible exact wharflaw11_live.mono _)
      | (with_reducible exact wharflaw11_small.mono _ _)
      | (with_reducible exact wharfref11_Same.mono _ _ _)
      | (with_reducible exact LeO.refl _)
      | (with_reducible exact LeO.none _)
      | (with_reducible refine LeO.ite ?_ ?_)
      | (with_reducible refine LeO.bind ?_ (fun _ => ?_))
      | exact ih0 _ _ _ _ _ _ _
      | exact ih1 _ _ _ _ _ _
      | exact ih2 _ _ _ _ _
      | exact ih3 _ _ _ _
      | exact ih4 _ _ _ _
      | exact tlv_First.mono _ _ _
      | exact tlv_Num.mono _ _
      | exact tlv_Put.mono _ _
      | exact wharflaw11_live.mono _
      | exact wharflaw11_small.mono _ _
      | exact wharfref11_Same.mono _ _ _
      | exact LeO.none _
      | refine LeO.ite ?_ ?_
      | refine LeO.bind ?_ (fun _ => ?_)
    · intro y0 y1 y2 y3
      unfold wharflaw11_TlvBack.j4
      repeat' first
      | (with_reducible exact ih0 _ _ _ _ _ _ _)
      | (with_reducible exact ih1 _ _ _ _ _ _)
      | (with_reducible exact ih2 _ _ _ _ _)
      | (with_reducible exact ih3 _ _ _ _)
      | (with_reducible exact ih4 _ _ _ _)
      | (with_reducible exact tlv_First.mono _ _ _)
      | (with_reducible exact tlv_Num.mono _ _)
      | (with_reducible exact tlv_Put.mono _ _)
      | (with_reducible exact wharflaw11_live.mono _)
      | (with_reducible exact wharflaw11_small.mono _ _)
      | (with_reducible exact wharfref11_Same.mono _ _ _)
      | (with_reducible exact LeO.refl _)
      | (with_reducible exact LeO.none _)
      | (with_reducible refine LeO.ite ?_ ?_)
      | (with_reducible refine LeO.bind ?_ (fun _ => ?_))
      | exact ih0 _ _ _ _ _ _ _
      | exact ih1 _ _ _ _ _ _
      | exact ih2 _ _ _ _ _
      | exact ih3 _ _ _ _
      | exact ih4 _ _ _ _
      | exact tlv_First.mono _ _ _
      | exact tlv_Num.mono _ _
      | exact tlv_Put.mono _ _
      | exact wharflaw11_live.mono _
      | exact wharflaw11_small.mono _ _
      | exact wharfref11_Same.mono _ _ _
      | exact LeO.none _
      | refine LeO.ite ?_ ?_
      | refine LeO.bind ?_ (fun _ => ?_)
theorem wharflaw11_TlvBack.mono : ∀ a0 a1 a2 a3 a4 a5 k, LeO (wharflaw11_TlvBack.f k a0 a1 a2 a3 a4 a5) (wharflaw11_TlvBack.f (k + 1) a0 a1 a2 a3 a4 a5) := by
  intro a0 a1 a2 a3 a4 a5 k
  obtain ⟨ih0, ih1, ih2, ih3, ih4⟩ := wharflaw11_TlvBack.mono_l k
  unfold wharflaw11_TlvBack.f
  repeat' first
      | (with_reducible exact ih0 _ _ _ _ _ _ _)
      | (with_reducible exact ih1 _ _ _ _ _ _)
      | (with_reducible exact ih2 _ _ _ _ _)
      | (with_reducible exact ih3 _ _ _ _)
      | (with_reducible exact ih4 _ _ _ _)
      | (with_reducible exact tlv_First.mono _ _ _)
      | (with_reducible exact tlv_Num.mono _ _)
      | (with_reducible exact tlv_Put.mono _ _)
      | (with_reducible exact wharflaw11_live.mono _)
      | (with_reducible exact wharflaw11_small.mono _ _)
      | (with_reducible exact wharfref11_Same.mono _ _ _)
      | (with_reducible exact LeO.refl _)
      | (with_reducible exact LeO.none _)
      | (with_reducible refine LeO.ite ?_ ?_)
      | (with_reducible refine LeO.bind ?_ (fun _ => ?_))
      | exact ih0 _ _ _ _ _ _ _
      | exact ih1 _ _ _ _ _ _
      | exact ih2 _ _ _ _ _
      | exact ih3 _ _ _ _
      | exact ih4 _ _ _ _
      | exact tlv_First.mono _ _ _
      | exact tlv_Num.mono _ _
      | exact tlv_Put.mono _ _
      | exact wharflaw11_live.mono _
      | exact wharflaw11_small.mono _ _
      | exact wharfref11_Same.mono _ _ _
      | exact LeO.none _
      | refine LeO.ite ?_ ?_
      | refine LeO.bind ?_ (fun _ => ?_)
set_option maxHeartbeats 8000000 in
set_option maxRecDepth 100000 in
theorem wharflaw11_TlvBack.calls (k : Nat) (a0 : Int) (a1 : Int) (A2 : Option Addr) (c2 : Nat) (l2 : List (S75)) (a3 : ByteArray) (a4 : ByteArray) (a5 : Int) (r : Bool) (w : World) (hr2 : Kd.C k75 w A2 l2.length l2) (hc2 : l2.length ≤ c2) (h : wharflaw11_TlvBack.f k a0 a1 l2 a3 a4 a5 = some r) :
    Calls Try.prog 10 #[.int .i64 a0, .int .i64 a1, .slice A2 l2.length c2, .string a3, .string a4, .int .i64 a5] w fun e w' => e = .returned (.bool r) ∧ Below w.heap.size w w' := by
  have HR2 := Aside0.mk hr2
  have HC2 := Aside0.mk hc2
  clear hr2 hc2
  have HB := Aside0.mk (Below.refl w.heap.size w)
  have H : ((wharflaw11_small.f k l2).bind fun t365 => (if t365 = true then (wharflaw11_TlvBack.j0 k a0 a1 l2 a3 a4 a5 (decide ((wrap64 ((a3.size : Int) + (a4.size : Int))) > 5000))) else (wharflaw11_TlvBack.j0 k a0 a1 l2 a3 a4 a5 true))) = some r := h
  clear h
  have HC7 := Aside0.mk H
  clear H
  go_enter Try.func10, Try.ntmps10
  go_upto_region 1 with (fail)
  go_cut [39] (fun v39 wc => ∃ (kq : Nat) (x39_6 : Bool), v39 = .bool x39_6 ∧ Aside0 (wharflaw11_TlvBack.j0 kq a0 a1 l2 a3 a4 a5 x39_6 = some r) ∧ Aside0 (kq ≤ k) ∧ Aside0 (Below w.heap.size w wc))
  case first =>
    have H := HC7.out
    clear HC7
    replace H := Option.bind_eq_some_iff.mp H
    obtain ⟨t365, A80, H⟩ := H
    replace H : (if t365 = true then (wharflaw11_TlvBack.j0 k a0 a1 l2 a3 a4 a5 (decide ((wrap64 ((a3.size : Int) + (a4.size : Int))) > 5000))) else (wharflaw11_TlvBack.j0 k a0 a1 l2 a3 a4 a5 true)) = some r := H
    have A8 := Aside0.mk A80
    clear A80
    by_cases c9 : t365 = true
    · subst c9
      have H1 : (wharflaw11_TlvBack.j0 k a0 a1 l2 a3 a4 a5 (decide ((wrap64 ((a3.size : Int) + (a4.size : Int))) > 5000))) = some r := by rw [if_pos rfl] at H; exact H
      clear H
      have H := H1
      clear H1
      have H' := Aside0.mk H
      clear H
      go_wp2_with (first | ((with_reducible refine gate_callee (f := 37) rfl ?_); refine goesL_ (some 30) rfl rfl Try.func37 (by kernel_rfl) rfl #[.slice A2 l2.length c2] rfl (by (try simp only [List.map_toArray, List.map_cons, List.map_nil]); first | done | rfl | (simp only [List.length_drop, List.length_take]; rfl)) ?_; (with_reducible refine (wharflaw11_small.calls k _ _ l2 true _ ?side1 ?side2 A8.out).mono ?_); (case side1 => repeat (first | exact (Kd.C_below HR2.out HB.out) | (with_reducible refine Kd.C_alloc ?_ _) | (with_reducible refine Kd.C_drewN ?_ _) | (with_reducible refine Kd.C_drew ?_))); (case side2 => exact HC2.out); rintro e w' ⟨rfl, ⟨nd, rfl⟩⟩; refine ⟨_, rfl, ?_⟩))
      go_meet
      case rel => exact ⟨_, (decide ((wrap64 ((a3.size : Int) + (a4.size : Int))) > 5000)), (by first | rfl | (simp; done) | (simp [*]; done)), H', ⟨by first | omega | exact Nat.le_refl _⟩, ⟨by repeat (first | (with_reducible first | exact HB.out | apply below_alloc | apply pw_below_drewN | apply below_drew1) | exact HB.out)⟩⟩
    · replace c9 := Bool.eq_false_iff.mpr c9
      subst c9
      have H1 : (wharflaw11_TlvBack.j0 k a0 a1 l2 a3 a4 a5 true) = some r := by rw [if_neg (show ¬ (false = true) by decide)] at H; exact H
      clear H
      have H := H1
      clear H1
      have H' := Aside0.mk H
      clear H
      go_wp2_with (first | ((with_reducible refine gate_callee (f := 37) rfl ?_); refine goesL_ (some 30) rfl rfl Try.func37 (by kernel_rfl) rfl #[.slice A2 l2.length c2] rfl (by (try simp only [List.map_toArray, List.map_cons, List.map_nil]); first | done | rfl | (simp only [List.length_drop, List.length_take]; rfl)) ?_; (with_reducible refine (wharflaw11_small.calls k _ _ l2 false _ ?side1 ?side2 A8.out).mono ?_); (case side1 => repeat (first | exact (Kd.C_below HR2.out HB.out) | (with_reducible refine Kd.C_alloc ?_ _) | (with_reducible refine Kd.C_drewN ?_ _) | (with_reducible refine Kd.C_drew ?_))); (case side2 => exact HC2.out); rintro e w' ⟨rfl, ⟨nd, rfl⟩⟩; refine ⟨_, rfl, ?_⟩))
      go_meet
      case rel => exact ⟨_, (true), (by first | rfl | (simp; done) | (simp [*]; done)), H', ⟨by first | omega | exact Nat.le_refl _⟩, ⟨by repeat (first | (with_reducible first | exact HB.out | apply below_alloc | apply pw_below_drewN | apply below_drew1) | exact HB.out)⟩⟩
  case rest =>
    clear HC7
    try clear c1
    try clear c2
    try clear p2
    try clear c3
    try clear p6
    try clear c9
    obtain ⟨kq, x39_6, rfl, HA, HJ6, HB⟩ := hcut
    cases kq with
    | zero => exact absurd HA.out (by simp [wharflaw11_TlvBack.j0])
    | succ kj6 =>
      have H := HA.out
      clear HA
      simp only [wharflaw11_TlvBack.j0] at H
      by_cases c10 : x39_6 = true
      · subst c10
        have H1 : ((wharflaw11_live.f kj6).bind fun t366 => (some t366)) = some r := by rw [if_pos rfl] at H; exact H
        clear H
        have H := H1
        clear H1
        replace H := Option.bind_eq_some_iff.mp H
        obtain ⟨t366, A110, H⟩ := H
        replace H : (some t366) = some r := H
        have A11 := Aside0.mk A110
        clear A110
        obtain rfl := Option.some.inj H
        go_wp2_with (first | ((with_reducible refine gate_callee (f := 22) rfl ?_); refine goesL_ (some 40) rfl rfl Try.func22 (by kernel_rfl) rfl #[] rfl (by (try simp only [List.map_toArray, List.map_cons, List.map_nil]); first | done | rfl | (simp only [List.length_drop, List.length_take]; rfl)) ?_; (with_reducible refine (wharflaw11_live.calls kj6  t366 _ A11.out).mono ?_); rintro e w12 ⟨rfl, hb⟩; refine ⟨_, rfl, ?_⟩; have n0_ := Aside0.mk (below_step (by repeat (first | (with_reducible first | exact HB.out | apply below_alloc | apply pw_below_drewN | apply below_drew1) | exact HB.out)) hb); clear HB; have HB := n0_; clear n0_; (try clear hb); (try clear hb2); (try clear hk); (try clear hi)))
        go_ret
        exact ⟨by first | rfl | (simp [errW_none, errW_some] <;> rfl) | (simp [*, errW_none, errW_some] <;> rfl), by repeat (first | (with_reducible first | exact HB.out | apply below_alloc | apply pw_below_drewN | apply below_drew1) | exact HB.out)⟩
      · replace c10 := Bool.eq_false_iff.mpr c10
        subst c10
        have H1 : ((tlv_Int.f a0 a1).bind fun bt367 => ((tlv_Num.f kj6 bt367.1).bind fun bt369 => ((wharflaw11_num.f bt367.2).bind fun t371 => (if t371 = 0 then ((wharflaw11_num.f bt369.2).bind fun t372 => (if t372 = 0 then (if bt369.1 = a0 then (wharflaw11_TlvBack.j1 kj6 a1 l2 a3 a4 a5 ((bt367.1.size : Int) != a1)) else (wharflaw11_TlvBack.j1 kj6 a1 l2 a3 a4 a5 true)) else (wharflaw11_TlvBack.j1 kj6 a1 l2 a3 a4 a5 true))) else (wharflaw11_TlvBack.j1 kj6 a1 l2 a3 a4 a5 false))))) = some r := by rw [if_neg (show ¬ (false = true) by decide)] at H; exact H
        clear H
        have H := H1
        clear H1
        replace H := Option.bind_eq_some_iff.mp H
        obtain ⟨⟨t367, t368⟩, A130, H⟩ := H
        replace H : ((tlv_Num.f kj6 t367).bind fun bt369 => ((wharflaw11_num.f t368).bind fun t371 => (if t371 = 0 then ((wharflaw11_num.f bt369.2).bind fun t372 => (if t372 = 0 then (if bt369.1 = a0 then (wharflaw11_TlvBack.j1 kj6 a1 l2 a3 a4 a5 ((t367.size : Int) != a1)) else (wharflaw11_TlvBack.j1 kj6 a1 l2 a3 a4 a5 true)) else (wharflaw11_TlvBack.j1 kj6 a1 l2 a3 a4 a5 true))) else (wharflaw11_TlvBack.j1 kj6 a1 l2 a3 a4 a5 false)))) = some r := H
        have A13 := Aside0.mk A130
        clear A130
        replace H := Option.bind_eq_some_iff.mp H
        obtain ⟨⟨t369, t370⟩, A140, H⟩ := H
        replace H : ((wharflaw11_num.f t368).bind fun t371 => (if t371 = 0 then ((wharflaw11_num.f t370).bind fun t372 => (if t372 = 0 then (if t369 = a0 then (wharflaw11_TlvBack.j1 kj6 a1 l2 a3 a4 a5 ((t367.size : Int) != a1)) else (wharflaw11_TlvBack.j1 kj6 a1 l2 a3 a4 a5 true)) else (wharflaw11_TlvBack.j1 kj6 a1 l2 a3 a4 a5 true))) else (wharflaw11_TlvBack.j1 kj6 a1 l2 a3 a4 a5 false))) = some r := H
        have A14 := Aside0.mk A140
        clear A140
        have HC15 := Aside0.mk H
        clear H
        go_upto_region 5 with (first | ((with_reducible refine gate_callee (f := 23) rfl ?_); refine goesL_ (some 44) rfl rfl Try.func23 (by kernel_rfl) rfl #[.int .i64 a0, .int .i64 a1] rfl (by (try simp only [List.map_toArray, List.map_cons, List.map_nil]); first | done | rfl | (simp only [List.length_drop, List.length_take]; rfl)) ?_; (with_reducible refine (tlv_Int.calls a0 a1 t367 t368 _ A13.out).mono ?_); rintro e w16 ⟨rfl, hb⟩; refine ⟨_, rfl, ?_⟩; have n0_ := Aside0.mk (below_step (by repeat (first | (with_reducible first | exact HB.out | apply below_alloc | apply pw_below_drewN | apply below_drew1) | exact HB.out)) hb); clear HB; have HB := n0_; clear n0_; (try clear hb); (try clear hb2); (try clear hk); (try clear hi)) | ((with_reducible refine gate_callee (f := 25) rfl ?_); refine goesL_ (some 49) rfl rfl Try.func25 (by kernel_rfl) rfl #[.string t367] rfl (by (try simp only [List.map_toArray, List.map_cons, List.map_nil]); first | done | rfl | (simp only [List.length_drop, List.length_take]; rfl)) ?_; (with_reducible refine (tlv_Num.calls kj6 t367 t369 t370 _ A14.out).mono ?_); rintro e w' ⟨rfl, ⟨nd, rfl⟩⟩; refine ⟨_, rfl, ?_⟩))
        (try simp only [Act.put, List.setIfInBounds_toArray, List.set_cons_zero, List.set_cons_succ])
        go_cut [70] (fun v70 wc => ∃ (kq : Nat) (x70_14 : Bool), v70 = .bool x70_14 ∧ Aside0 (wharflaw11_TlvBack.j1 kq a1 l2 a3 a4 a5 x70_14 = some r) ∧ Aside0 (kq ≤ kj6) ∧ Aside0 (Below w.heap.size w wc))
        case first =>
          have H := HC15.out
          clear HC15
          replace H := Option.bind_eq_some_iff.mp H
          obtain ⟨t371, A170, H⟩ := H
          replace H : (if t371 = 0 then ((wharflaw11_num.f t370).bind fun t372 => (if t372 = 0 then (if t369 = a0 then (wharflaw11_TlvBack.j1 kj6 a1 l2 a3 a4 a5 ((t367.size : Int) != a1)) else (wharflaw11_TlvBack.j1 kj6 a1 l2 a3 a4 a5 true)) else (wharflaw11_TlvBack.j1 kj6 a1 l2 a3 a4 a5 true))) else (wharflaw11_TlvBack.j1 kj6 a1 l2 a3 a4 a5 false)) = some r := H
          have A17 := Aside0.mk A170
          clear A170
          by_cases c18 : t371 = 0
          · rw [if_pos c18] at H
            have c18b0 : (t371 == 0) = true := beq_iff_eq.mpr c18
            have c18b1 : (t371 != 0) = false := bne_eq_false_iff_eq.mpr c18
            clear c18
            (first | rw [c18b0] | (simp only [i64_w, i32_w]; rw [c18b0]) | skip)
            replace H := Option.bind_eq_some_iff.mp H
            obtain ⟨t372, A190, H⟩ := H
            replace H : (if t372 = 0 then (if t369 = a0 then (wharflaw11_TlvBack.j1 kj6 a1 l2 a3 a4 a5 ((t367.size : Int) != a1)) else (wharflaw11_TlvBack.j1 kj6 a1 l2 a3 a4 a5 true)) else (wharflaw11_TlvBack.j1 kj6 a1 l2 a3 a4 a5 true)) = some r := H
            have A19 := Aside0.mk A190
            clear A190
            by_cases c20 : t372 = 0
            · rw [if_pos c20] at H
              have c20b0 : (t372 == 0) = true := beq_iff_eq.mpr c20
              have c20b1 : (t372 != 0) = false := bne_eq_false_iff_eq.mpr c20
              clear c20
              by_cases c21 : t369 = a0
              · rw [if_pos c21] at H
                have c21b0 : (t369 == a0) = true := beq_iff_eq.mpr c21
                have c21b1 : (t369 != a0) = false := bne_eq_false_iff_eq.mpr c21
                clear c21
                have H' := Aside0.mk H
                clear H
                go_wp2_with (first | ((with_reducible refine gate_callee (f := 29) rfl ?_); refine goesL_ (some 53) rfl rfl Try.func29 (by kernel_rfl) rfl #[.int .i64 t368] rfl (by (try simp only [List.map_toArray, List.map_cons, List.map_nil]); first | done | rfl | (simp only [List.length_drop, List.length_take]; rfl)) ?_; (with_reducible refine (wharflaw11_num.calls t368 t371 _ A17.out).mono ?_); rintro e w' ⟨rfl, ⟨nd, rfl⟩⟩; refine ⟨_, rfl, ?_⟩) | (go_at_call 29; (with_reducible refine (wharflaw11_num.calls t370 t372 _ A19.out).mono ?_); rintro e w' ⟨rfl, ⟨nd, rfl⟩⟩))
                go_meet
                case rel => exact ⟨_, (((t367.size : Int) != a1)), (by first | rfl | (simp; done) | (simp [*]; done)), H', ⟨by have := HJ6.out; first | omega | exact Nat.le_refl _⟩, ⟨by repeat (first | (with_reducible first | exact HB.out | apply below_alloc | apply pw_below_drewN | apply below_drew1) | exact HB.out)⟩⟩
              · rw [if_neg c21] at H
                have c21b0 : (t369 == a0) = false := beq_eq_false_iff_ne.mpr c21
                have c21b1 : (t369 != a0) = true := bne_iff_ne.mpr c21
                have H' := Aside0.mk H
                clear H
                go_wp2_with (first | ((with_reducible refine gate_callee (f := 29) rfl ?_); refine goesL_ (some 53) rfl rfl Try.func29 (by kernel_rfl) rfl #[.int .i64 t368] rfl (by (try simp only [List.map_toArray, List.map_cons, List.map_nil]); first | done | rfl | (simp only [List.length_drop, List.length_take]; rfl)) ?_; (with_reducible refine (wharflaw11_num.calls t368 t371 _ A17.out).mono ?_); rintro e w' ⟨rfl, ⟨nd, rfl⟩⟩; refine ⟨_, rfl, ?_⟩) | (go_at_call 29; (with_reducible refine (wharflaw11_num.calls t370 t372 _ A19.out).mono ?_); rintro e w' ⟨rfl, ⟨nd, rfl⟩⟩))
                go_meet
                case rel => exact ⟨_, (true), (by first | rfl | (simp; done) | (simp [*]; done)), H', ⟨by have := HJ6.out; first | omega | exact Nat.le_refl _⟩, ⟨by repeat (first | (with_reducible first | exact HB.out | apply below_alloc | apply pw_below_drewN | apply below_drew1) | exact HB.out)⟩⟩
            · rw [if_neg c20] at H
              have c20b0 : (t372 == 0) = false := beq_eq_false_iff_ne.mpr c20
              have c20b1 : (t372 != 0) = true := bne_iff_ne.mpr c20
              have H' := Aside0.mk H
              clear H
              go_wp2_with (first | ((with_reducible refine gate_callee (f := 29) rfl ?_); refine goesL_ (some 53) rfl rfl Try.func29 (by kernel_rfl) rfl #[.int .i64 t368] rfl (by (try simp only [List.map_toArray, List.map_cons, List.map_nil]); first | done | rfl | (simp only [List.length_drop, List.length_take]; rfl)) ?_; (with_reducible refine (wharflaw11_num.calls t368 t371 _ A17.out).mono ?_); rintro e w' ⟨rfl, ⟨nd, rfl⟩⟩; refine ⟨_, rfl, ?_⟩) | (go_at_call 29; (with_reducible refine (wharflaw11_num.calls t370 t372 _ A19.out).mono ?_); rintro e w' ⟨rfl, ⟨nd, rfl⟩⟩))
              go_meet
              case rel => exact ⟨_, (true), (by first | rfl | (simp; done) | (simp [*]; done)), H', ⟨by have := HJ6.out; first | omega | exact Nat.le_refl _⟩, ⟨by repeat (first | (with_reducible first | exact HB.out | apply below_alloc | apply pw_below_drewN | apply below_drew1) | exact HB.out)⟩⟩
          · rw [if_neg c18] at H
            have c18b0 : (t371 == 0) = false := beq_eq_false_iff_ne.mpr c18
            have c18b1 : (t371 != 0) = true := bne_iff_ne.mpr c18
            (first | rw [c18b0] | (simp only [i64_w, i32_w]; rw [c18b0]) | skip)
            have H' := Aside0.mk H
            clear H
            go_wp2_with (first | ((with_reducible refine gate_callee (f := 29) rfl ?_); refine goesL_ (some 53) rfl rfl Try.func29 (by kernel_rfl) rfl #[.int .i64 t368] rfl (by (try simp only [List.map_toArray, List.map_cons, List.map_nil]); first | done | rfl | (simp only [List.length_drop, List.length_take]; rfl)) ?_; (with_reducible refine (wharflaw11_num.calls t368 t371 _ A17.out).mono ?_); rintro e w' ⟨rfl, ⟨nd, rfl⟩⟩; refine ⟨_, rfl, ?_⟩))
            go_meet
            case rel => exact ⟨_, (false), (by first | rfl | (simp; done) | (simp [*]; done)), H', ⟨by have := HJ6.out; first | omega | exact Nat.le_refl _⟩, ⟨by repeat (first | (with_reducible first | exact HB.out | apply below_alloc | apply pw_below_drewN | apply below_drew1) | exact HB.out)⟩⟩
        case rest =>
          clear HC15
          try clear c1
          try clear c2
          try clear p2
          try clear c3
          try clear p6
          try clear c9
          try clear c10
          try clear c18
          try clear c18b0
          try clear c18b1
          try clear c20
          try clear c20b0
          try clear c20b1
          try clear c21
          try clear c21b0
          try clear c21b1
          try clear p2
          try clear p6
          obtain ⟨kq, x70_14, rfl, HA, HJ14, HB⟩ := hcut
          cases kq with
          | zero => exact absurd HA.out (by simp [wharflaw11_TlvBack.j1])
          | succ kj14 =>
            have H := HA.out
            clear HA
            simp only [wharflaw11_TlvBack.j1] at H
            by_cases c22 : x70_14 = true
            · subst c22
              have H1 : (some false) = some r := by rw [if_pos rfl] at H; exact H
              clear H
              have H := H1
              clear H1
              obtain rfl := Option.some.inj H
              go_wp2
              go_ret
              exact ⟨by first | rfl | (simp [errW_none, errW_some] <;> rfl) | (simp [*, errW_none, errW_some] <;> rfl), by repeat (first | (with_reducible first | exact HB.out | apply below_alloc | apply pw_below_drewN | apply below_drew1) | exact HB.out)⟩
            · replace c22 := Bool.eq_false_iff.mpr c22
              subst c22
              have H1 : ((tlv_Put.f kj14 l2).bind fun bt373 => ((tlv_Parse.f bt373.1).bind fun bt375 => ((wharflaw11_num.f bt373.2).bind fun t379 => (if t379 = 0 then ((wharflaw11_num.f bt375.2).bind fun t380 => (if t380 = 0 then ((wharfref11_Same.f kj14 bt375.1 l2).bind fun t381 => (wharflaw11_TlvBack.j2 kj14 a1 a3 a4 a5 (!t381))) else (wharflaw11_TlvBack.j2 kj14 a1 a3 a4 a5 true))) else (wharflaw11_TlvBack.j2 kj14 a1 a3 a4 a5 false))))) = some r := by rw [if_neg (show ¬ (false = true) by decide)] at H; exact H
              clear H
              have H := H1
              clear H1
              replace H := Option.bind_eq_some_iff.mp H
              obtain ⟨⟨t373, t374⟩, A230, H⟩ := H
              replace H : ((tlv_Parse.f t373).bind fun bt375 => ((wharflaw11_num.f t374).bind fun t379 => (if t379 = 0 then ((wharflaw11_num.f bt375.2).bind fun t380 => (if t380 = 0 then ((wharfref11_Same.f kj14 bt375.1 l2).bind fun t381 => (wharflaw11_TlvBack.j2 kj14 a1 a3 a4 a5 (!t381))) else (wharflaw11_TlvBack.j2 kj14 a1 a3 a4 a5 true))) else (wharflaw11_TlvBack.j2 kj14 a1 a3 a4 a5 false)))) = some r := H
              have A23 := Aside0.mk A230
              clear A230
              replace H := Option.bind_eq_some_iff.mp H
              obtain ⟨⟨t375, t376⟩, A240, H⟩ := H
              replace H : ((wharflaw11_num.f t374).bind fun t379 => (if t379 = 0 then ((wharflaw11_num.f t376).bind fun t380 => (if t380 = 0 then ((wharfref11_Same.f kj14 t375 l2).bind fun t381 => (wharflaw11_TlvBack.j2 kj14 a1 a3 a4 a5 (!t381))) else (wharflaw11_TlvBack.j2 kj14 a1 a3 a4 a5 true))) else (wharflaw11_TlvBack.j2 kj14 a1 a3 a4 a5 false))) = some r := H
              have A24 := Aside0.mk A240
              clear A240
              have HC25 := Aside0.mk H
              clear H
              go_upto_region 9 with (first | ((with_reducible refine gate_callee (f := 38) rfl ?_); refine goesL_ (some 73) rfl rfl Try.func38 (by kernel_rfl) rfl #[.slice A2 l2.length c2] rfl (by (try simp only [List.map_toArray, List.map_cons, List.map_nil]); first | done | rfl | (simp only [List.length_drop, List.length_take]; rfl)) ?_; (with_reducible refine (tlv_Put.calls kj14 _ _ l2 t373 t374 _ ?side1 ?side2 A23.out).mono ?_); (case side1 => repeat (first | exact (Kd.C_below HR2.out HB.out) | (with_reducible refine Kd.C_alloc ?_ _) | (with_reducible refine Kd.C_drewN ?_ _) | (with_reducible refine Kd.C_drew ?_))); (case side2 => exact HC2.out); rintro e w26 ⟨rfl, hb⟩; refine ⟨_, rfl, ?_⟩; have n0_ := Aside0.mk (below_step (by repeat (first | (with_reducible first | exact HB.out | apply below_alloc | apply pw_below_drewN | apply below_drew1) | exact HB.out)) hb); clear HB; have HB := n0_; clear n0_; (try clear hb); (try clear hb2); (try clear hk); (try clear hi)) | ((with_reducible refine gate_callee (f := 30) rfl ?_); refine goesL_ (some 78) rfl rfl Try.func30 (by kernel_rfl) rfl #[.string t373] rfl (by (try simp only [List.map_toArray, List.map_cons, List.map_nil]); first | done | rfl | (simp only [List.length_drop, List.length_take]; rfl)) ?_; (with_reducible refine (tlv_Parse.calls t373 t375 t376 _ A24.out).mono ?_); rintro e w27 ⟨v377, rfl, ho0, hb⟩; refine ⟨_, rfl, ?_⟩; have n0_ := Aside0.mk (Kd.R_lower ho0 (below_size (by repeat (first | (with_reducible first | exact HB.out | apply below_alloc | apply pw_below_drewN | apply below_drew1) | exact HB.out)))); have n1_ := Aside0.mk (below_step (by repeat (first | (with_reducible first | exact HB.out | apply below_alloc | apply pw_below_drewN | apply below_drew1) | exact HB.out)) hb); clear HB; have HO378 := n0_; have HB := n1_; clear n0_ n1_; (try clear hb); (try clear hb2); (try clear hk); (try clear hi); (try clear ho0)))
              (try simp only [Act.put, List.setIfInBounds_toArray, List.set_cons_zero, List.set_cons_succ])
              go_cut [94] (fun v94 wc => ∃ (kq : Nat) (x94_24 : Bool), v94 = .bool x94_24 ∧ Aside0 (wharflaw11_TlvBack.j2 kq a1 a3 a4 a5 x94_24 = some r) ∧ Aside0 (kq ≤ kj14) ∧ Aside0 (Below w.heap.size w wc))
              case first =>
                have H := HC25.out
                clear HC25
                replace H := Option.bind_eq_some_iff.mp H
                obtain ⟨t379, A280, H⟩ := H
                replace H : (if t379 = 0 then ((wharflaw11_num.f t376).bind fun t380 => (if t380 = 0 then ((wharfref11_Same.f kj14 t375 l2).bind fun t381 => (wharflaw11_TlvBack.j2 kj14 a1 a3 a4 a5 (!t381))) else (wharflaw11_TlvBack.j2 kj14 a1 a3 a4 a5 true))) else (wharflaw11_TlvBack.j2 kj14 a1 a3 a4 a5 false)) = some r := H
                have A28 := Aside0.mk A280
                clear A280
                by_cases c29 : t379 = 0
                · rw [if_pos c29] at H
                  have c29b0 : (t379 == 0) = true := beq_iff_eq.mpr c29
                  have c29b1 : (t379 != 0) = false := bne_eq_false_iff_eq.mpr c29
                  clear c29
                  (first | rw [c29b0] | (simp only [i64_w, i32_w]; rw [c29b0]) | skip)
                  replace H := Option.bind_eq_some_iff.mp H
                  obtain ⟨t380, A300, H⟩ := H
                  replace H : (if t380 = 0 then ((wharfref11_Same.f kj14 t375 l2).bind fun t381 => (wharflaw11_TlvBack.j2 kj14 a1 a3 a4 a5 (!t381))) else (wharflaw11_TlvBack.j2 kj14 a1 a3 a4 a5 true)) = some r := H
                  have A30 := Aside0.mk A300
                  clear A300
                  by_cases c31 : t380 = 0
                  · rw [if_pos c31] at H
                    have c31b0 : (t380 == 0) = true := beq_iff_eq.mpr c31
                    have c31b1 : (t380 != 0) = false := bne_eq_false_iff_eq.mpr c31
                    clear c31
                    replace H := Option.bind_eq_some_iff.mp H
                    obtain ⟨t381, A320, H⟩ := H
                    replace H : (wharflaw11_TlvBack.j2 kj14 a1 a3 a4 a5 (!t381)) = some r := H
                    have A32 := Aside0.mk A320
                    clear A320
                    have H' := Aside0.mk H
                    clear H
                    go_wp2_with (first | ((with_reducible refine gate_callee (f := 29) rfl ?_); refine goesL_ (some 82) rfl rfl Try.func29 (by kernel_rfl) rfl #[.int .i64 t374] rfl (by (try simp only [List.map_toArray, List.map_cons, List.map_nil]); first | done | rfl | (simp only [List.length_drop, List.length_take]; rfl)) ?_; (with_reducible refine (wharflaw11_num.calls t374 t379 _ A28.out).mono ?_); rintro e w' ⟨rfl, ⟨nd, rfl⟩⟩; refine ⟨_, rfl, ?_⟩) | (go_at_call 29; (with_reducible refine (wharflaw11_num.calls t376 t380 _ A30.out).mono ?_); rintro e w' ⟨rfl, ⟨nd, rfl⟩⟩; obtain ⟨Ao33, co33, eo33⟩ := Kd.R_slice HO378.out; subst eo33) | (go_at_call 36; (with_reducible refine (wharfref11_Same.calls kj14 _ _ t375 _ _ l2 t381 _ ?side1 ?side2 ?side3 ?side4 A32.out).mono ?_); (case side1 => repeat (first | exact (Kd.R_reads' HO378.out).2.2 | (with_reducible refine Kd.C_alloc ?_ _) | (with_reducible refine Kd.C_drewN ?_ _) | (with_reducible refine Kd.C_drew ?_))); (case side2 => exact (Kd.R_reads' HO378.out).2.1); (case side3 => repeat (first | exact (Kd.C_below HR2.out (by repeat (first | (with_reducible first | exact HB.out | apply below_alloc | apply pw_below_drewN | apply below_drew1) | exact HB.out))) | (with_reducible refine Kd.C_alloc ?_ _) | (with_reducible refine Kd.C_drewN ?_ _) | (with_reducible refine Kd.C_drew ?_))); (case side4 => exact HC2.out); rintro e w' ⟨rfl, ⟨nd, rfl⟩⟩))
                    go_meet
                    case rel => exact ⟨_, (!t381), (by first | rfl | (simp; done) | (simp [*]; done)), H', ⟨by have := HJ6.out; have := HJ14.out; first | omega | exact Nat.le_refl _⟩, ⟨by repeat (first | (with_reducible first | exact HB.out | apply below_alloc | apply pw_below_drewN | apply below_drew1) | exact HB.out)⟩⟩
                  · rw [if_neg c31] at H
                    have c31b0 : (t380 == 0) = false := beq_eq_false_iff_ne.mpr c31
                    have c31b1 : (t380 != 0) = true := bne_iff_ne.mpr c31
                    have H' := Aside0.mk H
                    clear H
                    go_wp2_with (first | ((with_reducible refine gate_callee (f := 29) rfl ?_); refine goesL_ (some 82) rfl rfl Try.func29 (by kernel_rfl) rfl #[.int .i64 t374] rfl (by (try simp only [List.map_toArray, List.map_cons, List.map_nil]); first | done | rfl | (simp only [List.length_drop, List.length_take]; rfl)) ?_; (with_reducible refine (wharflaw11_num.calls t374 t379 _ A28.out).mono ?_); rintro e w' ⟨rfl, ⟨nd, rfl⟩⟩; refine ⟨_, rfl, ?_⟩) | (go_at_call 29; (with_reducible refine (wharflaw11_num.calls t376 t380 _ A30.out).mono ?_); rintro e w' ⟨rfl, ⟨nd, rfl⟩⟩))
                    go_meet
                    case rel => exact ⟨_, (true), (by first | rfl | (simp; done) | (simp [*]; done)), H', ⟨by have := HJ6.out; have := HJ14.out; first | omega | exact Nat.le_refl _⟩, ⟨by repeat (first | (with_reducible first | exact HB.out | apply below_alloc | apply pw_below_drewN | apply below_drew1) | exact HB.out)⟩⟩
                · rw [if_neg c29] at H
                  have c29b0 : (t379 == 0) = false := beq_eq_false_iff_ne.mpr c29
                  have c29b1 : (t379 != 0) = true := bne_iff_ne.mpr c29
                  (first | rw [c29b0] | (simp only [i64_w, i32_w]; rw [c29b0]) | skip)
                  have H' := Aside0.mk H
                  clear H
                  go_wp2_with (first | ((with_reducible refine gate_callee (f := 29) rfl ?_); refine goesL_ (some 82) rfl rfl Try.func29 (by kernel_rfl) rfl #[.int .i64 t374] rfl (by (try simp only [List.map_toArray, List.map_cons, List.map_nil]); first | done | rfl | (simp only [List.length_drop, List.length_take]; rfl)) ?_; (with_reducible refine (wharflaw11_num.calls t374 t379 _ A28.out).mono ?_); rintro e w' ⟨rfl, ⟨nd, rfl⟩⟩; refine ⟨_, rfl, ?_⟩))
                  go_meet
                  case rel => exact ⟨_, (false), (by first | rfl | (simp; done) | (simp [*]; done)), H', ⟨by have := HJ6.out; have := HJ14.out; first | omega | exact Nat.le_refl _⟩, ⟨by repeat (first | (with_reducible first | exact HB.out | apply below_alloc | apply pw_below_drewN | apply below_drew1) | exact HB.out)⟩⟩
              case rest =>
                clear HC25
                try clear c1
                try clear c2
                try clear p2
                try clear c3
                try clear p6
                try clear c9
                try clear c10
                try clear c18
                try clear c18b0
                try clear c18b1
                try clear c20
                try clear c20b0
                try clear c20b1
                try clear c21
                try clear c21b0
                try clear c21b1
                try clear c22
                try clear c23
                try clear c25
                try clear c29
                try clear c29b0
                try clear c29b1
                try clear c30
                try clear c31
                try clear c31b0
                try clear c31b1
                try clear p2
                try clear p6
                obtain ⟨kq, x94_24, rfl, HA, HJ24, HB⟩ := hcut
                cases kq with
                | zero => exact absurd HA.out (by simp [wharflaw11_TlvBack.j2])
                | succ kj24 =>
                  have H := HA.out
                  clear HA
                  simp only [wharflaw11_TlvBack.j2] at H
                  by_cases c34 : x94_24 = true
                  · subst c34
                    have H1 : (some false) = some r := by rw [if_pos rfl] at H; exact H
                    clear H
                    have H := H1
                    clear H1
                    obtain rfl := Option.some.inj H
                    go_wp2
                    go_ret
                    exact ⟨by first | rfl | (simp [errW_none, errW_some] <;> rfl) | (simp [*, errW_none, errW_some] <;> rfl), by repeat (first | (with_reducible first | exact HB.out | apply below_alloc | apply pw_below_drewN | apply below_drew1) | exact HB.out)⟩
                  · replace c34 := Bool.eq_false_iff.mpr c34
                    subst c34
                    have H1 : ((tlv_Text.f a3 a1).bind fun bt382 => ((wharflaw11_num.f bt382.2).bind fun t384 => (if t384 = 0 then (if bt382.1.size + a4.size ≤ 9223372036854775807 then ((tlv_First.f kj24 (bt382.1 ++ a4) a1).bind fun bt386 => ((wharflaw11_num.f bt386.2.2).bind fun t389 => (if t389 = 0 then (if bt386.1.toList = a3.toList then (wharflaw11_TlvBack.j3 kj24 a1 a5 bt382.1 (bt386.2.1.toList != a4.toList)) else (wharflaw11_TlvBack.j3 kj24 a1 a5 bt382.1 true)) else (wharflaw11_TlvBack.j3 kj24 a1 a5 bt382.1 true)))) else (none)) else ((wharflaw11_live.f kj24).bind fun t385 => (some t385))))) = some r := by rw [if_neg (show ¬ (false = true) by decide)] at H; exact H
                    clear H
                    have H := H1
                    clear H1
                    replace H := Option.bind_eq_some_iff.mp H
                    obtain ⟨⟨t382, t383⟩, A350, H⟩ := H
                    replace H : ((wharflaw11_num.f t383).bind fun t384 => (if t384 = 0 then (if t382.size + a4.size ≤ 9223372036854775807 then ((tlv_First.f kj24 (t382 ++ a4) a1).bind fun bt386 => ((wharflaw11_num.f bt386.2.2).bind fun t389 => (if t389 = 0 then (if bt386.1.toList = a3.toList then (wharflaw11_TlvBack.j3 kj24 a1 a5 t382 (bt386.2.1.toList != a4.toList)) else (wharflaw11_TlvBack.j3 kj24 a1 a5 t382 true)) else (wharflaw11_TlvBack.j3 kj24 a1 a5 t382 true)))) else (none)) else ((wharflaw11_live.f kj24).bind fun t385 => (some t385)))) = some r := H
                    have A35 := Aside0.mk A350
                    clear A350
                    replace H := Option.bind_eq_some_iff.mp H
                    obtain ⟨t384, A360, H⟩ := H
                    replace H : (if t384 = 0 then (if t382.size + a4.size ≤ 9223372036854775807 then ((tlv_First.f kj24 (t382 ++ a4) a1).bind fun bt386 => ((wharflaw11_num.f bt386.2.2).bind fun t389 => (if t389 = 0 then (if bt386.1.toList = a3.toList then (wharflaw11_TlvBack.j3 kj24 a1 a5 t382 (bt386.2.1.toList != a4.toList)) else (wharflaw11_TlvBack.j3 kj24 a1 a5 t382 true)) else (wharflaw11_TlvBack.j3 kj24 a1 a5 t382 true)))) else (none)) else ((wharflaw11_live.f kj24).bind fun t385 => (some t385))) = some r := H
                    have A36 := Aside0.mk A360
                    clear A360
                    by_cases c37 : t384 = 0
                    · rw [if_pos c37] at H
                      have c37b0 : (t384 == 0) = true := beq_iff_eq.mpr c37
                      have c37b1 : (t384 != 0) = false := bne_eq_false_iff_eq.mpr c37
                      clear c37
                      by_cases c38 : t382.size + a4.size ≤ 9223372036854775807
                      · rw [if_pos c38] at H
                        have c38b0 := eq_true c38
                        have c38b1 : decide (t382.size + a4.size ≤ 9223372036854775807) = true := decide_eq_true c38
                        try have c38b2 : (9223372036854775807 < t382.size + a4.size) = False := eq_false (Nat.not_lt.2 c38)
                        replace H := Option.bind_eq_some_iff.mp H
                        obtain ⟨⟨t386, t387, t388⟩, A390, H⟩ := H
                        replace H : ((wharflaw11_num.f t388).bind fun t389 => (if t389 = 0 then (if t386.toList = a3.toList then (wharflaw11_TlvBack.j3 kj24 a1 a5 t382 (t387.toList != a4.toList)) else (wharflaw11_TlvBack.j3 kj24 a1 a5 t382 true)) else (wharflaw11_TlvBack.j3 kj24 a1 a5 t382 true))) = some r := H
                        have A39 := Aside0.mk A390
                        clear A390
                        have HC40 := Aside0.mk H
                        clear H
                        go_upto_region 15 with (first | ((with_reducible refine gate_callee (f := 27) rfl ?_); refine goesL_ (some 98) rfl rfl Try.func27 (by kernel_rfl) rfl #[.string a3, .int .i64 a1] rfl (by (try simp only [List.map_toArray, List.map_cons, List.map_nil]); first | done | rfl | (simp only [List.length_drop, List.length_take]; rfl)) ?_; (with_reducible refine (tlv_Text.calls a3 a1 t382 t383 _ A35.out).mono ?_); rintro e w41 ⟨rfl, hb⟩; refine ⟨_, rfl, ?_⟩; have n0_ := Aside0.mk (below_step (by repeat (first | (with_reducible first | exact HB.out | apply below_alloc | apply pw_below_drewN | apply below_drew1) | exact HB.out)) hb); clear HB; have HB := n0_; clear n0_; (try clear hb); (try clear hb2); (try clear hk); (try clear hi)) | ((with_reducible refine gate_callee (f := 29) rfl ?_); refine goesL_ (some 102) rfl rfl Try.func29 (by kernel_rfl) rfl #[.int .i64 t383] rfl (by (try simp only [List.map_toArray, List.map_cons, List.map_nil]); first | done | rfl | (simp only [List.length_drop, List.length_take]; rfl)) ?_; (with_reducible refine (wharflaw11_num.calls t383 t384 _ A36.out).mono ?_); rintro e w' ⟨rfl, ⟨nd, rfl⟩⟩; refine ⟨_, rfl, ?_⟩) | ((with_reducible refine gate_callee (f := 32) rfl ?_); refine goesL_ (some 110) rfl rfl Try.func32 (by kernel_rfl) rfl #[.string (t382 ++ a4), .int .i64 a1] rfl (by (try simp only [List.map_toArray, List.map_cons, List.map_nil]); first | done | rfl | (simp only [List.length_drop, List.length_take]; rfl)) ?_; (with_reducible refine (tlv_First.calls kj24 (t382 ++ a4) a1 t386 t387 t388 _ A39.out).mono ?_); rintro e w' ⟨rfl, ⟨nd, rfl⟩⟩; refine ⟨_, rfl, ?_⟩))
                        (try simp only [Act.put, List.setIfInBounds_toArray, List.set_cons_zero, List.set_cons_succ])
                        go_cut [126] (fun v126 wc => ∃ (kq : Nat) (x126_39 : Bool), v126 = .bool x126_39 ∧ Aside0 (wharflaw11_TlvBack.j3 kq a1 a5 t382 x126_39 = some r) ∧ Aside0 (kq ≤ kj24) ∧ Aside0 (Below w.heap.size w wc))
                        case first =>
                          have H := HC40.out
                          clear HC40
                          replace H := Option.bind_eq_some_iff.mp H
                          obtain ⟨t389, A420, H⟩ := H
                          replace H : (if t389 = 0 then (if t386.toList = a3.toList then (wharflaw11_TlvBack.j3 kj24 a1 a5 t382 (t387.toList != a4.toList)) else (wharflaw11_TlvBack.j3 kj24 a1 a5 t382 true)) else (wharflaw11_TlvBack.j3 kj24 a1 a5 t382 true)) = some r := H
                          have A42 := Aside0.mk A420
                          clear A420
                          by_cases c43 : t389 = 0
                          · rw [if_pos c43] at H
                            have c43b0 : (t389 == 0) = true := beq_iff_eq.mpr c43
                            have c43b1 : (t389 != 0) = false := bne_eq_false_iff_eq.mpr c43
                            clear c43
                            (first | rw [c43b0] | (simp only [i64_w, i32_w]; rw [c43b0]) | skip)
                            by_cases c44 : t386.toList = a3.toList
                            · rw [if_pos c44] at H
                              have c44b0 : (t386.toList == a3.toList) = true := beq_iff_eq.mpr c44
                              have c44b1 : (t386.toList != a3.toList) = false := bne_eq_false_iff_eq.mpr c44
                              clear c44
                              have H' := Aside0.mk H
                              clear H
                              go_wp2_with (first | ((with_reducible refine gate_callee (f := 29) rfl ?_); refine goesL_ (some 115) rfl rfl Try.func29 (by kernel_rfl) rfl #[.int .i64 t388] rfl (by (try simp only [List.map_toArray, List.map_cons, List.map_nil]); first | done | rfl | (simp only [List.length_drop, List.length_take]; rfl)) ?_; (with_reducible refine (wharflaw11_num.calls t388 t389 _ A42.out).mono ?_); rintro e w' ⟨rfl, ⟨nd, rfl⟩⟩; refine ⟨_, rfl, ?_⟩))
                              go_meet
                              case rel => exact ⟨_, ((t387.toList != a4.toList)), (by first | rfl | (simp; done) | (simp [*]; done)), H', ⟨by have := HJ6.out; have := HJ14.out; have := HJ24.out; first | omega | exact Nat.le_refl _⟩, ⟨by repeat (first | (with_reducible first | exact HB.out | apply below_alloc | apply pw_below_drewN | apply below_drew1) | exact HB.out)⟩⟩
                            · rw [if_neg c44] at H
                              have c44b0 : (t386.toList == a3.toList) = false := beq_eq_false_iff_ne.mpr c44
                              have c44b1 : (t386.toList != a3.toList) = true := bne_iff_ne.mpr c44
                              have H' := Aside0.mk H
                              clear H
                              go_wp2_with (first | ((with_reducible refine gate_callee (f := 29) rfl ?_); refine goesL_ (some 115) rfl rfl Try.func29 (by kernel_rfl) rfl #[.int .i64 t388] rfl (by (try simp only [List.map_toArray, List.map_cons, List.map_nil]); first | done | rfl | (simp only [List.length_drop, List.length_take]; rfl)) ?_; (with_reducible refine (wharflaw11_num.calls t388 t389 _ A42.out).mono ?_); rintro e w' ⟨rfl, ⟨nd, rfl⟩⟩; refine ⟨_, rfl, ?_⟩))
                              go_meet
                              case rel => exact ⟨_, (true), (by first | rfl | (simp; done) | (simp [*]; done)), H', ⟨by have := HJ6.out; have := HJ14.out; have := HJ24.out; first | omega | exact Nat.le_refl _⟩, ⟨by repeat (first | (with_reducible first | exact HB.out | apply below_alloc | apply pw_below_drewN | apply below_drew1) | exact HB.out)⟩⟩
                          · rw [if_neg c43] at H
                            have c43b0 : (t389 == 0) = false := beq_eq_false_iff_ne.mpr c43
                            have c43b1 : (t389 != 0) = true := bne_iff_ne.mpr c43
                            (first | rw [c43b0] | (simp only [i64_w, i32_w]; rw [c43b0]) | skip)
                            have H' := Aside0.mk H
                            clear H
                            go_wp2_with (first | ((with_reducible refine gate_callee (f := 29) rfl ?_); refine goesL_ (some 115) rfl rfl Try.func29 (by kernel_rfl) rfl #[.int .i64 t388] rfl (by (try simp only [List.map_toArray, List.map_cons, List.map_nil]); first | done | rfl | (simp only [List.length_drop, List.length_take]; rfl)) ?_; (with_reducible refine (wharflaw11_num.calls t388 t389 _ A42.out).mono ?_); rintro e w' ⟨rfl, ⟨nd, rfl⟩⟩; refine ⟨_, rfl, ?_⟩))
                            go_meet
                            case rel => exact ⟨_, (true), (by first | rfl | (simp; done) | (simp [*]; done)), H', ⟨by have := HJ6.out; have := HJ14.out; have := HJ24.out; first | omega | exact Nat.le_refl _⟩, ⟨by repeat (first | (with_reducible first | exact HB.out | apply below_alloc | apply pw_below_drewN | apply below_drew1) | exact HB.out)⟩⟩
                        case rest =>
                          clear HC40
                          try clear c1
                          try clear c2
                          try clear p2
                          try clear c3
                          try clear c4
                          try clear p6
                          try clear c9
                          try clear c10
                          try clear c18
                          try clear c18b0
                          try clear c18b1
                          try clear c20
                          try clear c20b0
                          try clear c20b1
                          try clear c21
                          try clear c21b0
                          try clear c21b1
                          try clear c22
                          try clear c23
                          try clear c25
                          try clear c27
                          try clear c29
                          try clear c29b0
                          try clear c29b1
                          try clear c30
                          try clear c31
                          try clear c31b0
                          try clear c31b1
                          try clear c32
                          try clear c34
                          try clear c37
                          try clear c37b0
                          try clear c37b1
                          try clear c38
                          try clear c38b0
                          try clear c38b1
                          try clear c38b2
                          try clear c43
                          try clear c43b0
                          try clear c43b1
                          try clear c44
                          try clear c44b0
                          try clear c44b1
                          try clear p2
                          try clear p6
                          obtain ⟨kq, x126_39, rfl, HA, HJ39, HB⟩ := hcut
                          cases kq with
                          | zero => exact absurd HA.out (by simp [wharflaw11_TlvBack.j3])
                          | succ kj39 =>
                            have H := HA.out
                            clear HA
                            simp only [wharflaw11_TlvBack.j3] at H
                            by_cases c45 : x126_39 = true
                            · subst c45
                              have H1 : (some false) = some r := by rw [if_pos rfl] at H; exact H
                              clear H
                              have H := H1
                              clear H1
                              obtain rfl := Option.some.inj H
                              go_wp2
                              go_ret
                              exact ⟨by first | rfl | (simp [errW_none, errW_some] <;> rfl) | (simp [*, errW_none, errW_some] <;> rfl), by repeat (first | (with_reducible first | exact HB.out | apply below_alloc | apply pw_below_drewN | apply below_drew1) | exact HB.out)⟩
                            · replace c45 := Bool.eq_false_iff.mpr c45
                              subst c45
                              have H1 : (if a5 < 0 then (wharflaw11_TlvBack.j4 kj39 a1 a5 t382 true) else (wharflaw11_TlvBack.j4 kj39 a1 a5 t382 (decide (a5 ≥ (t382.size : Int))))) = some r := by rw [if_neg (show ¬ (false = true) by decide)] at H; exact H
                              clear H
                              have H := H1
                              clear H1
                              have HC46 := Aside0.mk H
                              clear H
                              go_upto_region 17 with (fail)
                              go_cut [134] (fun v134 wc => ∃ (kq : Nat) (x134_45 : Bool), v134 = .bool x134_45 ∧ Aside0 (wharflaw11_TlvBack.j4 kq a1 a5 t382 x134_45 = some r) ∧ Aside0 (kq ≤ kj39) ∧ Aside0 (Below w.heap.size w wc))
                              case first =>
                                have H := HC46.out
                                clear HC46
                                by_cases c47 : a5 < 0
                                · rw [if_pos c47] at H
                                  have c47b0 : decide (a5 < 0) = true := decide_eq_true c47
                                  clear c47
                                  (first | rw [c47b0] | (simp only [i64_w, i32_w]; rw [c47b0]) | skip)
                                  have H' := Aside0.mk H
                                  clear H
                                  go_wp2
                                  go_meet
                                  case rel => exact ⟨_, (true), (by first | rfl | (simp; done) | (simp [*]; done)), H', ⟨by have := HJ6.out; have := HJ14.out; have := HJ24.out; have := HJ39.out; first | omega | exact Nat.le_refl _⟩, ⟨by repeat (first | (with_reducible first | exact HB.out | apply below_alloc | apply pw_below_drewN | apply below_drew1) | exact HB.out)⟩⟩
                                · rw [if_neg c47] at H
                                  have c47b0 : decide (a5 < 0) = false := decide_eq_false c47
                                  clear c47
                                  (first | rw [c47b0] | (simp only [i64_w, i32_w]; rw [c47b0]) | skip)
                                  have H' := Aside0.mk H
                                  clear H
                                  go_wp2
                                  go_meet
                                  case rel => exact ⟨_, (decide (a5 ≥ (t382.size : Int))), (by first | rfl | (simp; done) | (simp [*]; done)), H', ⟨by have := HJ6.out; have := HJ14.out; have := HJ24.out; have := HJ39.out; first | omega | exact Nat.le_refl _⟩, ⟨by repeat (first | (with_reducible first | exact HB.out | apply below_alloc | apply pw_below_drewN | apply below_drew1) | exact HB.out)⟩⟩
                              case rest =>
                                clear HC46
                                try clear c1
                                try clear c2
                                try clear p2
                                try clear c3
                                try clear c4
                                try clear p6
                                try clear c9
                                try clear c10
                                try clear c18
                                try clear c18b0
                                try clear c18b1
                                try clear c20
                                try clear c20b0
                                try clear c20b1
                                try clear c21
                                try clear c21b0
                                try clear c21b1
                                try clear c22
                                try clear c23
                                try clear c25
                                try clear c27
                                try clear c29
                                try clear c29b0
                                try clear c29b1
                                try clear c30
                                try clear c31
                                try clear c31b0
                                try clear c31b1
                                try clear c32
                                try clear c34
                                try clear c37
                                try clear c37b0
                                try clear c37b1
                                try clear c38
                                try clear c38b0
                                try clear c38b1
                                try clear c38b2
                                try clear c43
                                try clear c43b0
                                try clear c43b1
                                try clear c44
                                try clear c44b0
                                try clear c44b1
                                try clear c45
                                try clear c47
                                try clear c47b0
                                try clear p2
                                try clear p6
                                obtain ⟨kq, x134_45, rfl, HA, HJ45, HB⟩ := hcut
                                cases kq with
                                | zero => exact absurd HA.out (by simp [wharflaw11_TlvBack.j4])
                                | succ kj45 =>
                                  have H := HA.out
                                  clear HA
                                  simp only [wharflaw11_TlvBack.j4] at H
                                  by_cases c48 : x134_45 = true
                                  · subst c48
                                    have H1 : ((wharflaw11_live.f kj45).bind fun t390 => (some t390)) = some r := by rw [if_pos rfl] at H; exact H
                                    clear H
                                    have H := H1
                                    clear H1
                                    replace H := Option.bind_eq_some_iff.mp H
                                    obtain ⟨t390, A490, H⟩ := H
                                    replace H : (some t390) = some r := H
                                    have A49 := Aside0.mk A490
                                    clear A490
                                    obtain rfl := Option.some.inj H
                                    go_wp2_with (first | ((with_reducible refine gate_callee (f := 22) rfl ?_); refine goesL_ (some 135) rfl rfl Try.func22 (by kernel_rfl) rfl #[] rfl (by (try simp only [List.map_toArray, List.map_cons, List.map_nil]); first | done | rfl | (simp only [List.length_drop, List.length_take]; rfl)) ?_; (with_reducible refine (wharflaw11_live.calls kj45  t390 _ A49.out).mono ?_); rintro e w50 ⟨rfl, hb⟩; refine ⟨_, rfl, ?_⟩; have n0_ := Aside0.mk (below_step (by repeat (first | (with_reducible first | exact HB.out | apply below_alloc | apply pw_below_drewN | apply below_drew1) | exact HB.out)) hb); clear HB; have HB := n0_; clear n0_; (try clear hb); (try clear hb2); (try clear hk); (try clear hi)))
                                    go_ret
                                    exact ⟨by first | rfl | (simp [errW_none, errW_some] <;> rfl) | (simp [*, errW_none, errW_some] <;> rfl), by repeat (first | (with_reducible first | exact HB.out | apply below_alloc | apply pw_below_drewN | apply below_drew1) | exact HB.out)⟩
                                  · replace c48 := Bool.eq_false_iff.mpr c48
                                    subst c48
                                    have H1 : (if 0 ≤ a5 then (if a5 ≤ (t382.size : Int) then ((tlv_First.f kj45 (t382.extract 0 (a5 : Int).toNat) a1).bind fun bt391 => ((wharflaw11_num.f bt391.2.2).bind fun t394 => (if t394 = 110 then ((wharflaw11_live.f kj45).bind fun t395 => (some t395)) else (some false)))) else (none)) else (none)) = some r := by rw [if_neg (show ¬ (false = true) by decide)] at H; exact H
                                    clear H
                                    have H := H1
                                    clear H1
                                    by_cases c51 : 0 ≤ a5
                                    · rw [if_pos c51] at H
                                      have c51b0 := eq_true c51
                                      have c51b1 : decide (0 ≤ a5) = true := decide_eq_true c51
                                      clear c51
                                      by_cases c52 : a5 ≤ (t382.size : Int)
                                      · rw [if_pos c52] at H
                                        have c52b0 := eq_true c52
                                        have c52b1 : decide (a5 ≤ (t382.size : Int)) = true := decide_eq_true c52
                                        clear c52
                                        replace H := Option.bind_eq_some_iff.mp H
                                        obtain ⟨⟨t391, t392, t393⟩, A530, H⟩ := H
                                        replace H : ((wharflaw11_num.f t393).bind fun t394 => (if t394 = 110 then ((wharflaw11_live.f kj45).bind fun t395 => (some t395)) else (some false))) = some r := H
                                        have A53 := Aside0.mk A530
                                        clear A530
                                        replace H := Option.bind_eq_some_iff.mp H
                                        obtain ⟨t394, A540, H⟩ := H
                                        replace H : (if t394 = 110 then ((wharflaw11_live.f kj45).bind fun t395 => (some t395)) else (some false)) = some r := H
                                        have A54 := Aside0.mk A540
                                        clear A540
                                        by_cases c55 : t394 = 110
                                        · rw [if_pos c55] at H
                                          have c55b0 : (t394 == 110) = true := beq_iff_eq.mpr c55
                                          have c55b1 : (t394 != 110) = false := bne_eq_false_iff_eq.mpr c55
                                          clear c55
                                          replace H := Option.bind_eq_some_iff.mp H
                                          obtain ⟨t395, A560, H⟩ := H
                                          replace H : (some t395) = some r := H
                                          have A56 := Aside0.mk A560
                                          clear A560
                                          obtain rfl := Option.some.inj H
                                          go_wp2_with (first | ((with_reducible refine gate_callee (f := 32) rfl ?_); refine goesL_ (some 141) rfl rfl Try.func32 (by kernel_rfl) rfl #[.string (t382.extract 0 (a5 : Int).toNat), .int .i64 a1] rfl (by (try simp only [List.map_toArray, List.map_cons, List.map_nil]); first | done | rfl | (simp only [List.length_drop, List.length_take]; rfl)) ?_; (with_reducible refine (tlv_First.calls kj45 (t382.extract 0 (a5 : Int).toNat) a1 t391 t392 t393 _ A53.out).mono ?_); rintro e w' ⟨rfl, ⟨nd, rfl⟩⟩; refine ⟨_, rfl, ?_⟩) | ((with_reducible refine gate_callee (f := 29) rfl ?_); refine goesL_ (some 146) rfl rfl Try.func29 (by kernel_rfl) rfl #[.int .i64 t393] rfl (by (try simp only [List.map_toArray, List.map_cons, List.map_nil]); first | done | rfl | (simp only [List.length_drop, List.length_take]; rfl)) ?_; (with_reducible refine (wharflaw11_num.calls t393 t394 _ A54.out).mono ?_); rintro e w' ⟨rfl, ⟨nd, rfl⟩⟩; refine ⟨_, rfl, ?_⟩) | (go_at_call 22; (with_reducible refine (wharflaw11_live.calls kj45  t395 _ A56.out).mono ?_); rintro e w57 ⟨rfl, hb⟩; have n0_ := Aside0.mk (below_step (by repeat (first | (with_reducible first | exact HB.out | apply below_alloc | apply pw_below_drewN | apply below_drew1) | exact HB.out)) hb); clear HB; have HB := n0_; clear n0_; (try clear hb); (try clear hb2); (try clear hk); (try clear hi)))
                                          go_ret
                                          exact ⟨by first | rfl | (simp [errW_none, errW_some] <;> rfl) | (simp [*, errW_none, errW_some] <;> rfl), by repeat (first | (with_reducible first | exact HB.out | apply below_alloc | apply pw_below_drewN | apply below_drew1) | exact HB.out)⟩
                                        · rw [if_neg c55] at H
                                          have c55b0 : (t394 == 110) = false := beq_eq_false_iff_ne.mpr c55
                                          have c55b1 : (t394 != 110) = true := bne_iff_ne.mpr c55
                                          obtain rfl := Option.some.inj H
                                          go_wp2_with (first | ((with_reducible refine gate_callee (f := 32) rfl ?_); refine goesL_ (some 141) rfl rfl Try.func32 (by kernel_rfl) rfl #[.string (t382.extract 0 (a5 : Int).toNat), .int .i64 a1] rfl (by (try simp only [List.map_toArray, List.map_cons, List.map_nil]); first | done | rfl | (simp only [List.length_drop, List.length_take]; rfl)) ?_; (with_reducible refine (tlv_First.calls kj45 (t382.extract 0 (a5 : Int).toNat) a1 t391 t392 t393 _ A53.out).mono ?_); rintro e w' ⟨rfl, ⟨nd, rfl⟩⟩; refine ⟨_, rfl, ?_⟩) | ((with_reducible refine gate_callee (f := 29) rfl ?_); refine goesL_ (some 146) rfl rfl Try.func29 (by kernel_rfl) rfl #[.int .i64 t393] rfl (by (try simp only [List.map_toArray, List.map_cons, List.map_nil]); first | done | rfl | (simp only [List.length_drop, List.length_take]; rfl)) ?_; (with_reducible refine (wharflaw11_num.calls t393 t394 _ A54.out).mono ?_); rintro e w' ⟨rfl, ⟨nd, rfl⟩⟩; refine ⟨_, rfl, ?_⟩))
                                          go_ret
                                          exact ⟨by first | rfl | (simp [errW_none, errW_some] <;> rfl) | (simp [*, errW_none, errW_some] <;> rfl), by repeat (first | (with_reducible first | exact HB.out | apply below_alloc | apply pw_below_drewN | apply below_drew1) | exact HB.out)⟩
                                      · rw [if_neg c52] at H
                                        exact absurd H (by simp)
                                    · rw [if_neg c51] at H
                                      exact absurd H (by simp)
                      · rw [if_neg c38] at H
                        exact absurd H (by simp)
                    · rw [if_neg c37] at H
                      have c37b0 : (t384 == 0) = false := beq_eq_false_iff_ne.mpr c37
                      have c37b1 : (t384 != 0) = true := bne_iff_ne.mpr c37
                      replace H := Option.bind_eq_some_iff.mp H
                      obtain ⟨t385, A580, H⟩ := H
                      replace H : (some t385) = some r := H
                      have A58 := Aside0.mk A580
                      clear A580
                      obtain rfl := Option.some.inj H
                      go_wp2_with (first | ((with_reducible refine gate_callee (f := 27) rfl ?_); refine goesL_ (some 98) rfl rfl Try.func27 (by kernel_rfl) rfl #[.string a3, .int .i64 a1] rfl (by (try simp only [List.map_toArray, List.map_cons, List.map_nil]); first | done | rfl | (simp only [List.length_drop, List.length_take]; rfl)) ?_; (with_reducible refine (tlv_Text.calls a3 a1 t382 t383 _ A35.out).mono ?_); rintro e w59 ⟨rfl, hb⟩; refine ⟨_, rfl, ?_⟩; have n0_ := Aside0.mk (below_step (by repeat (first | (with_reducible first | exact HB.out | apply below_alloc | apply pw_below_drewN | apply below_drew1) | exact HB.out)) hb); clear HB; have HB := n0_; clear n0_; (try clear hb); (try clear hb2); (try clear hk); (try clear hi)) | ((with_reducible refine gate_callee (f := 29) rfl ?_); refine goesL_ (some 102) rfl rfl Try.func29 (by kernel_rfl) rfl #[.int .i64 t383] rfl (by (try simp only [List.map_toArray, List.map_cons, List.map_nil]); first | done | rfl | (simp only [List.length_drop, List.length_take]; rfl)) ?_; (with_reducible refine (wharflaw11_num.calls t383 t384 _ A36.out).mono ?_); rintro e w' ⟨rfl, ⟨nd, rfl⟩⟩; refine ⟨_, rfl, ?_⟩) | ((with_reducible refine gate_callee (f := 22) rfl ?_); refine goesL_ (some 104) rfl rfl Try.func22 (by kernel_rfl) rfl #[] rfl (by (try simp only [List.map_toArray, List.map_cons, List.map_nil]); first | done | rfl | (simp only [List.length_drop, List.length_take]; rfl)) ?_; (with_reducible refine (wharflaw11_live.calls kj24  t385 _ A58.out).mono ?_); rintro e w60 ⟨rfl, hb⟩; refine ⟨_, rfl, ?_⟩; have n0_ := Aside0.mk (below_step (by repeat (first | (with_reducible first | exact HB.out | apply below_alloc | apply pw_below_drewN | apply below_drew1) | exact HB.out)) hb); clear HB; have HB := n0_; clear n0_; (try clear hb); (try clear hb2); (try clear hk); (try clear hi)))
                      go_ret
                      exact ⟨by first | rfl | (simp [errW_none, errW_some] <;> rfl) | (simp [*, errW_none, errW_some] <;> rfl), by repeat (first | (with_reducible first | exact HB.out | apply below_alloc | apply pw_below_drewN | apply below_drew1) | exact HB.out)⟩

end Go.Proofs.Ytndcpbiofhclhaa.H
