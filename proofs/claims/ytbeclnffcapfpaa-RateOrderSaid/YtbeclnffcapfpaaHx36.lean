-- written by hp.py for this claim, out of the kit's printer and texts of my own
import Derived.Test.YtbeclnffcapfpaaHx0
import Derived.Test.YtbeclnffcapfpaaHx10069
namespace Go.Proofs.Ytbeclnffcapfpaa.H
open Go.RowKit Go.Proofs.YtbeclnffcapfpaaW.PrintWords Go.Proofs.YtbeclnffcapfpaaW.PrintLast Go.Proofs.YtbeclnffcapfpaaW.PrintMore
attribute [local go_sem] max2_int min2_int max_two min_two max_three min_three max_four min_four   -- for this text's walks alone
set_option linter.unusedVariables false
set_option linter.unusedSimpArgs false

attribute [local go_sem high] eqA69
/-! ### wharfref14_Same: function 36 -/
mutual
def wharfref14_Same.j0 : Nat → Bool → Int → ByteArray → ByteArray → ByteArray → Int → Int → Int → Int → Bool → List (S69) → List Int → Int → ByteArray → ByteArray → ByteArray → Int → Int → Int → Int → Bool → List (S69) → List Int → Option (Bool)
  | 0, _, _, _, _, _, _, _, _, _, _, _, _, _, _, _, _, _, _, _, _, _, _, _ => none
  | k + 1, x85, x356000, x356001, x356002, x356003, x356004, x356005, x356006, x356007, x356008, x356009, x356010, x357000, x357001, x357002, x357003, x357004, x357005, x357006, x357007, x357008, x357009, x357010 => if x85 = true then (some false) else (wharfref14_Same.l0 k 0 x356000 x356001 x356002 x356003 x356004 x356005 x356006 x356007 x356008 x356009 x356010 x357000 x357001 x357002 x357003 x357004 x357005 x357006 x357007 x357008 x357009 x357010)
def wharfref14_Same.l0 : Nat → Int → Int → ByteArray → ByteArray → ByteArray → Int → Int → Int → Int → Bool → List (S69) → List Int → Int → ByteArray → ByteArray → ByteArray → Int → Int → Int → Int → Bool → List (S69) → List Int → Option (Bool)
  | 0, _, _, _, _, _, _, _, _, _, _, _, _, _, _, _, _, _, _, _, _, _, _, _ => none
  | k + 1, x5, x356000, x356001, x356002, x356003, x356004, x356005, x356006, x356007, x356008, x356009, x356010, x357000, x357001, x357002, x357003, x357004, x357005, x357006, x357007, x357008, x357009, x357010 => if x5 < (x356009.length : Int) then (if 0 ≤ x5 then (if x5 < (x357009.length : Int) then (if (!((((rd_T69 x356009 x5).f0).toList) == (((rd_T69 x357009 x5).f0).toList)) || (!(((rd_T69 x356009 x5).f1) == ((rd_T69 x357009 x5).f1)) || (!(((rd_T69 x356009 x5).f2) == ((rd_T69 x357009 x5).f2)) || (!(((rd_T69 x356009 x5).f3) == ((rd_T69 x357009 x5).f3)) || (!((((rd_T69 x356009 x5).f4).toList) == (((rd_T69 x357009 x5).f4).toList)) || (!(((rd_T69 x356009 x5).f5) == ((rd_T69 x357009 x5).f5)))))))) = true then (some false) else (wharfref14_Same.l0 k (wrap64 (x5 + 1)) x356000 x356001 x356002 x356003 x356004 x356005 x356006 x356007 x356008 x356009 x356010 x357000 x357001 x357002 x357003 x357004 x357005 x357006 x357007 x357008 x357009 x357010)) else (none)) else (none)) else (wharfref14_Same.l1 k 0 x356000 x356001 x356002 x356003 x356004 x356005 x356006 x356007 x356008 x356009 x356010 x357000 x357001 x357002 x357003 x357004 x357005 x357006 x357007 x357008 x357009 x357010)
def wharfref14_Same.l1 : Nat → Int → Int → ByteArray → ByteArray → ByteArray → Int → Int → Int → Int → Bool → List (S69) → List Int → Int → ByteArray → ByteArray → ByteArray → Int → Int → Int → Int → Bool → List (S69) → List Int → Option (Bool)
  | 0, _, _, _, _, _, _, _, _, _, _, _, _, _, _, _, _, _, _, _, _, _, _, _ => none
  | k + 1, x6, x356000, x356001, x356002, x356003, x356004, x356005, x356006, x356007, x356008, x356009, x356010, x357000, x357001, x357002, x357003, x357004, x357005, x357006, x357007, x357008, x357009, x357010 => if x6 < (x356010.length : Int) then (if 0 ≤ x6 then (if x6 < (x357010.length : Int) then (if (rd x356010 x6) = (rd x357010 x6) then (wharfref14_Same.l1 k (wrap64 (x6 + 1)) x356000 x356001 x356002 x356003 x356004 x356005 x356006 x356007 x356008 x356009 x356010 x357000 x357001 x357002 x357003 x357004 x357005 x357006 x357007 x357008 x357009 x357010) else (some false)) else (none)) else (none)) else (some true)
end
def wharfref14_Same.f (k : Nat) (a0_0 : Int) (a0_1 : ByteArray) (a0_2 : ByteArray) (a0_3 : ByteArray) (a0_4 : Int) (a0_5 : Int) (a0_6 : Int) (a0_7 : Int) (a0_8 : Bool) (l0_9 : List (S69)) (l0_10 : List Int) (a1_0 : Int) (a1_1 : ByteArray) (a1_2 : ByteArray) (a1_3 : ByteArray) (a1_4 : Int) (a1_5 : Int) (a1_6 : Int) (a1_7 : Int) (a1_8 : Bool) (l1_9 : List (S69)) (l1_10 : List Int) : Option (Bool) := if a0_0 = a1_0 then (if a0_1.toList = a1_1.toList then (if a0_2.toList = a1_2.toList then (if a0_3.toList = a1_3.toList then (if a0_4 = a1_4 then (if a0_5 = a1_5 then (if a0_6 = a1_6 then (if a0_7 = a1_7 then (if (a0_8 != a1_8) = true then (wharfref14_Same.j0 k true a0_0 a0_1 a0_2 a0_3 a0_4 a0_5 a0_6 a0_7 a0_8 l0_9 l0_10 a1_0 a1_1 a1_2 a1_3 a1_4 a1_5 a1_6 a1_7 a1_8 l1_9 l1_10) else (if (l0_9.length : Int) = (l1_9.length : Int) then (wharfref14_Same.j0 k ((l0_10.length : Int) != (l1_10.length : Int)) a0_0 a0_1 a0_2 a0_3 a0_4 a0_5 a0_6 a0_7 a0_8 l0_9 l0_10 a1_0 a1_1 a1_2 a1_3 a1_4 a1_5 a1_6 a1_7 a1_8 l1_9 l1_10) else (wharfref14_Same.j0 k true a0_0 a0_1 a0_2 a0_3 a0_4 a0_5 a0_6 a0_7 a0_8 l0_9 l0_10 a1_0 a1_1 a1_2 a1_3 a1_4 a1_5 a1_6 a1_7 a1_8 l1_9 l1_10))) else (wharfref14_Same.j0 k true a0_0 a0_1 a0_2 a0_3 a0_4 a0_5 a0_6 a0_7 a0_8 l0_9 l0_10 a1_0 a1_1 a1_2 a1_3 a1_4 a1_5 a1_6 a1_7 a1_8 l1_9 l1_10)) else (wharfref14_Same.j0 k true a0_0 a0_1 a0_2 a0_3 a0_4 a0_5 a0_6 a0_7 a0_8 l0_9 l0_10 a1_0 a1_1 a1_2 a1_3 a1_4 a1_5 a1_6 a1_7 a1_8 l1_9 l1_10)) else (wharfref14_Same.j0 k true a0_0 a0_1 a0_2 a0_3 a0_4 a0_5 a0_6 a0_7 a0_8 l0_9 l0_10 a1_0 a1_1 a1_2 a1_3 a1_4 a1_5 a1_6 a1_7 a1_8 l1_9 l1_10)) else (wharfref14_Same.j0 k true a0_0 a0_1 a0_2 a0_3 a0_4 a0_5 a0_6 a0_7 a0_8 l0_9 l0_10 a1_0 a1_1 a1_2 a1_3 a1_4 a1_5 a1_6 a1_7 a1_8 l1_9 l1_10)) else (wharfref14_Same.j0 k true a0_0 a0_1 a0_2 a0_3 a0_4 a0_5 a0_6 a0_7 a0_8 l0_9 l0_10 a1_0 a1_1 a1_2 a1_3 a1_4 a1_5 a1_6 a1_7 a1_8 l1_9 l1_10)) else (wharfref14_Same.j0 k true a0_0 a0_1 a0_2 a0_3 a0_4 a0_5 a0_6 a0_7 a0_8 l0_9 l0_10 a1_0 a1_1 a1_2 a1_3 a1_4 a1_5 a1_6 a1_7 a1_8 l1_9 l1_10)) else (wharfref14_Same.j0 k true a0_0 a0_1 a0_2 a0_3 a0_4 a0_5 a0_6 a0_7 a0_8 l0_9 l0_10 a1_0 a1_1 a1_2 a1_3 a1_4 a1_5 a1_6 a1_7 a1_8 l1_9 l1_10)) else (wharfref14_Same.j0 k true a0_0 a0_1 a0_2 a0_3 a0_4 a0_5 a0_6 a0_7 a0_8 l0_9 l0_10 a1_0 a1_1 a1_2 a1_3 a1_4 a1_5 a1_6 a1_7 a1_8 l1_9 l1_10)
theorem wharfref14_Same.mono_l : ∀ k, (∀ y0 y1 y2 y3 y4 y5 y6 y7 y8 y9 y10 y11 y12 y13 y14 y15 y16 y17 y18 y19 y20 y21 y22, LeO (wharfref14_Same.j0 k y0 y1 y2 y3 y4 y5 y6 y7 y8 y9 y10 y11 y12 y13 y14 y15 y16 y17 y18 y19 y20 y21 y22) (wharfref14_Same.j0 (k + 1) y0 y1 y2 y3 y4 y5 y6 y7 y8 y9 y10 y11 y12 y13 y14 y15 y16 y17 y18 y19 y20 y21 y22)) ∧ (∀ y0 y1 y2 y3 y4 y5 y6 y7 y8 y9 y10 y11 y12 y13 y14 y15 y16 y17 y18 y19 y20 y21 y22, LeO (wharfref14_Same.l0 k y0 y1 y2 y3 y4 y5 y6 y7 y8 y9 y10 y11 y12 y13 y14 y15 y16 y17 y18 y19 y20 y21 y22) (wharfref14_Same.l0 (k + 1) y0 y1 y2 y3 y4 y5 y6 y7 y8 y9 y10 y11 y12 y13 y14 y15 y16 y17 y18 y19 y20 y21 y22)) ∧ (∀ y0 y1 y2 y3 y4 y5 y6 y7 y8 y9 y10 y11 y12 y13 y14 y15 y16 y17 y18 y19 y20 y21 y22, LeO (wharfref14_Same.l1 k y0 y1 y2 y3 y4 y5 y6 y7 y8 y9 y10 y11 y12 y13 y14 y15 y16 y17 y18 y19 y20 y21 y22) (wharfref14_Same.l1 (k + 1) y0 y1 y2 y3 y4 y5 y6 y7 y8 y9 y10 y11 y12 y13 y14 y15 y16 y17 y18 y19 y20 y21 y22))
  | 0 => ⟨fun _ _ _ _ _ _ _ _ _ _ _ _ _ _ _ _ _ _ _ _ _ _ _ r h => by simp [wharfref14_Same.j0] at h, fun _ _ _ _ _ _ _ _ _ _ _ _ _ _ _ _ _ _ _ _ _ _ _ r h => by simp [wharfref14_Same.l0] at h, fun _ _ _ _ _ _ _ _ _ _ _ _ _ _ _ _ _ _ _ _ _ _ _ r h => by simp [wharfref14_Same.l1] at h⟩
  | k + 1 => by
    obtain ⟨ih0, ih1, ih2⟩ := wharfref14_Same.mono_l k
    refine ⟨?_, ?_, ?_⟩
    · intro y0 y1 y2 y3 y4 y5 y6 y7 y8 y9 y10 y11 y12 y13 y14 y15 y16 y17 y18 y19 y20 y21 y22
      unfold wharfref14_Same.j0
      repeat' first
      | (with_reducible exact ih0 _ _ _ _ _ _ _ _ _ _ _ _ _ _ _ _ _ _ _ _ _ _ _)
      | (with_reducible exact ih1 _ _ _ _ _ _ _ _ _ _ _ _ _ _ _ _ _ _ _ _ _ _ _)
      | (with_reducible exact ih2 _ _ _ _ _ _ _ _ _ _ _ _ _ _ _ _ _ _ _ _ _ _ _)
      | (with_reducible exact LeO.refl _)
      | (with_reducible exact LeO.none _)
      | (with_reducible refine LeO.ite ?_ ?_)
      | (with_reducible refine LeO.bind ?_ (fun _ => ?_))
      | exact ih0 _ _ _ _ _ _ _ _ _ _ _ _ _ _ _ _ _ _ _ _ _ _ _
      | exact ih1 _ _ _ _ _ _ _ _ _ _ _ _ _ _ _ _ _ _ _ _ _ _ _
      | exact ih2 _ _ _ _ _ _ _ _ _ _ _ _ _ _ _ _ _ _ _ _ _ _ _
      | exact LeO.none _
      | refine LeO.ite ?_ ?_
      | refine LeO.bind ?_ (fun _ => ?_)
    · intro y0 y1 y2 y3 y4 y5 y6 y7 y8 y9 y10 y11 y12 y13 y14 y15 y16 y17 y18 y19 y20 y21 y22
      unfold wharfref14_Same.l0
      repeat' first
      | (with_reducible exact ih0 _ _ _ _ _ _ _ _ _ _ _ _ _ _ _ _ _ _ _ _ _ _ _)
      | (with_reducible exact ih1 _ _ _ _ _ _ _ _ _ _ _ _ _ _ _ _ _ _ _ _ _ _ _)
      | (with_reducible exact ih2 _ _ _ _ _ _ _ _ _ _ _ _ _ _ _ _ _ _ _ _ _ _ _)
      | (with_reducible exact LeO.refl _)
      | (with_reducible exact LeO.none _)
      | (with_reducible refine LeO.ite ?_ ?_)
      | (with_reducible refine LeO.bind ?_ (fun _ => ?_))
      | exact ih0 _ _ _ _ _ _ _ _ _ _ _ _ _ _ _ _ _ _ _ _ _ _ _
      | exact ih1 _ _ _ _ _ _ _ _ _ _ _ _ _ _ _ _ _ _ _ _ _ _ _
      | exact ih2 _ _ _ _ _ _ _ _ _ _ _ _ _ _ _ _ _ _ _ _ _ _ _
      | exact LeO.none _
      | refine LeO.ite ?_ ?_
      | refine LeO.bind ?_ (fun _ => ?_)
    · intro y0 y1 y2 y3 y4 y5 y6 y7 y8 y9 y10 y11 y12 y13 y14 y15 y16 y17 y18 y19 y20 y21 y22
      unfold wharfref14_Same.l1
      repeat' first
      | (with_reducible exact ih0 _ _ _ _ _ _ _ _ _ _ _ _ _ _ _ _ _ _ _ _ _ _ _)
      | (with_reducible exact ih1 _ _ _ _ _ _ _ _ _ _ _ _ _ _ _ _ _ _ _ _ _ _ _)
      | (with_reducible exact ih2 _ _ _ _ _ _ _ _ _ _ _ _ _ _ _ _ _ _ _ _ _ _ _)
      | (with_reducible exact LeO.refl _)
      | (with_reducible exact LeO.none _)
      | (with_reducible refine LeO.ite ?_ ?_)
      | (with_reducible refine LeO.bind ?_ (fun _ => ?_))
      | exact ih0 _ _ _ _ _ _ _ _ _ _ _ _ _ _ _ _ _ _ _ _ _ _ _
      | exact ih1 _ _ _ _ _ _ _ _ _ _ _ _ _ _ _ _ _ _ _ _ _ _ _
      | exact ih2 _ _ _ _ _ _ _ _ _ _ _ _ _ _ _ _ _ _ _ _ _ _ _
      | exact LeO.none _
      | refine LeO.ite ?_ ?_
      | refine LeO.bind ?_ (fun _ => ?_)
theorem wharfref14_Same.mono : ∀ a0 a1 a2 a3 a4 a5 a6 a7 a8 a9 a10 a11 a12 a13 a14 a15 a16 a17 a18 a19 a20 a21 k, LeO (wharfref14_Same.f k a0 a1 a2 a3 a4 a5 a6 a7 a8 a9 a10 a11 a12 a13 a14 a15 a16 a17 a18 a19 a20 a21) (wharfref14_Same.f (k + 1) a0 a1 a2 a3 a4 a5 a6 a7 a8 a9 a10 a11 a12 a13 a14 a15 a16 a17 a18 a19 a20 a21) := by
  intro a0 a1 a2 a3 a4 a5 a6 a7 a8 a9 a10 a11 a12 a13 a14 a15 a16 a17 a18 a19 a20 a21 k
  obtain ⟨ih0, ih1, ih2⟩ := wharfref14_Same.mono_l k
  unfold wharfref14_Same.f
  repeat' first
      | (with_reducible exact ih0 _ _ _ _ _ _ _ _ _ _ _ _ _ _ _ _ _ _ _ _ _ _ _)
      | (with_reducible exact ih1 _ _ _ _ _ _ _ _ _ _ _ _ _ _ _ _ _ _ _ _ _ _ _)
      | (with_reducible exact ih2 _ _ _ _ _ _ _ _ _ _ _ _ _ _ _ _ _ _ _ _ _ _ _)
      | (with_reducible exact LeO.refl _)
      | (with_reducible exact LeO.none _)
      | (with_reducible refine LeO.ite ?_ ?_)
      | (with_reducible refine LeO.bind ?_ (fun _ => ?_))
      | exact ih0 _ _ _ _ _ _ _ _ _ _ _ _ _ _ _ _ _ _ _ _ _ _ _
      | exact ih1 _ _ _ _ _ _ _ _ _ _ _ _ _ _ _ _ _ _ _ _ _ _ _
      | exact ih2 _ _ _ _ _ _ _ _ _ _ _ _ _ _ _ _ _ _ _ _ _ _ _
      | exact LeO.none _
      | refine LeO.ite ?_ ?_
      | refine LeO.bind ?_ (fun _ => ?_)
set_option maxHeartbeats 8000000 in
set_option maxRecDepth 100000 in
theorem wharfref14_Same.calls (k : Nat) (a0_0 : Int) (a0_1 : ByteArray) (a0_2 : ByteArray) (a0_3 : ByteArray) (a0_4 : Int) (a0_5 : Int) (a0_6 : Int) (a0_7 : Int) (a0_8 : Bool) (A0_9 : Option Addr) (c0_9 : Nat) (l0_9 : List (S69)) (A0_10 : Option Addr) (c0_10 : Nat) (l0_10 : List Int) (a1_0 : Int) (a1_1 : ByteArray) (a1_2 : ByteArray) (a1_3 : ByteArray) (a1_4 : Int) (a1_5 : Int) (a1_6 : Int) (a1_7 : Int) (a1_8 : Bool) (A1_9 : Option Addr) (c1_9 : Nat) (l1_9 : List (S69)) (A1_10 : Option Addr) (c1_10 : Nat) (l1_10 : List Int) (r : Bool) (w : World) (hr0_9 : Kd.C k69 w A0_9 l0_9.length l0_9) (hc0_9 : l0_9.length ≤ c0_9) (hr0_10 : Kd.C (Kd.int .i64) w A0_10 l0_10.length l0_10) (hc0_10 : l0_10.length ≤ c0_10) (hr1_9 : Kd.C k69 w A1_9 l1_9.length l1_9) (hc1_9 : l1_9.length ≤ c1_9) (hr1_10 : Kd.C (Kd.int .i64) w A1_10 l1_10.length l1_10) (hc1_10 : l1_10.length ≤ c1_10) (h : wharfref14_Same.f k a0_0 a0_1 a0_2 a0_3 a0_4 a0_5 a0_6 a0_7 a0_8 l0_9 l0_10 a1_0 a1_1 a1_2 a1_3 a1_4 a1_5 a1_6 a1_7 a1_8 l1_9 l1_10 = some r) :
    Calls Try.prog 36 #[.agg #[.int .i64 a0_0, .string a0_1, .string a0_2, .string a0_3, .int .i64 a0_4, .int .i64 a0_5, .int .i64 a0_6, .int .i64 a0_7, .bool a0_8, .slice A0_9 l0_9.length c0_9, .slice A0_10 l0_10.length c0_10], .agg #[.int .i64 a1_0, .string a1_1, .string a1_2, .string a1_3, .int .i64 a1_4, .int .i64 a1_5, .int .i64 a1_6, .int .i64 a1_7, .bool a1_8, .slice A1_9 l1_9.length c1_9, .slice A1_10 l1_10.length c1_10]] w fun e w' => e = .returned (.bool r) ∧ Below w.heap.size w w' := by
  have hu41 := Try.underlying41
  have hu69 := Try.underlying69
  have HR0_9 := Aside0.mk hr0_9
  have HC0_9 := Aside0.mk hc0_9
  clear hr0_9 hc0_9
  have HR0_10 := Aside0.mk hr0_10
  have HC0_10 := Aside0.mk hc0_10
  clear hr0_10 hc0_10
  have HR1_9 := Aside0.mk hr1_9
  have HC1_9 := Aside0.mk hc1_9
  clear hr1_9 hc1_9
  have HR1_10 := Aside0.mk hr1_10
  have HC1_10 := Aside0.mk hc1_10
  clear hr1_10 hc1_10
  have HB := Aside0.mk (Below.refl w.heap.size w)
  have H : (if a0_0 = a1_0 then (if a0_1.toList = a1_1.toList then (if a0_2.toList = a1_2.toList then (if a0_3.toList = a1_3.toList then (if a0_4 = a1_4 then (if a0_5 = a1_5 then (if a0_6 = a1_6 then (if a0_7 = a1_7 then (if (a0_8 != a1_8) = true then (wharfref14_Same.j0 k true a0_0 a0_1 a0_2 a0_3 a0_4 a0_5 a0_6 a0_7 a0_8 l0_9 l0_10 a1_0 a1_1 a1_2 a1_3 a1_4 a1_5 a1_6 a1_7 a1_8 l1_9 l1_10) else (if (l0_9.length : Int) = (l1_9.length : Int) then (wharfref14_Same.j0 k ((l0_10.length : Int) != (l1_10.length : Int)) a0_0 a0_1 a0_2 a0_3 a0_4 a0_5 a0_6 a0_7 a0_8 l0_9 l0_10 a1_0 a1_1 a1_2 a1_3 a1_4 a1_5 a1_6 a1_7 a1_8 l1_9 l1_10) else (wharfref14_Same.j0 k true a0_0 a0_1 a0_2 a0_3 a0_4 a0_5 a0_6 a0_7 a0_8 l0_9 l0_10 a1_0 a1_1 a1_2 a1_3 a1_4 a1_5 a1_6 a1_7 a1_8 l1_9 l1_10))) else (wharfref14_Same.j0 k true a0_0 a0_1 a0_2 a0_3 a0_4 a0_5 a0_6 a0_7 a0_8 l0_9 l0_10 a1_0 a1_1 a1_2 a1_3 a1_4 a1_5 a1_6 a1_7 a1_8 l1_9 l1_10)) else (wharfref14_Same.j0 k true a0_0 a0_1 a0_2 a0_3 a0_4 a0_5 a0_6 a0_7 a0_8 l0_9 l0_10 a1_0 a1_1 a1_2 a1_3 a1_4 a1_5 a1_6 a1_7 a1_8 l1_9 l1_10)) else (wharfref14_Same.j0 k true a0_0 a0_1 a0_2 a0_3 a0_4 a0_5 a0_6 a0_7 a0_8 l0_9 l0_10 a1_0 a1_1 a1_2 a1_3 a1_4 a1_5 a1_6 a1_7 a1_8 l1_9 l1_10)) else (wharfref14_Same.j0 k true a0_0 a0_1 a0_2 a0_3 a0_4 a0_5 a0_6 a0_7 a0_8 l0_9 l0_10 a1_0 a1_1 a1_2 a1_3 a1_4 a1_5 a1_6 a1_7 a1_8 l1_9 l1_10)) else (wharfref14_Same.j0 k true a0_0 a0_1 a0_2 a0_3 a0_4 a0_5 a0_6 a0_7 a0_8 l0_9 l0_10 a1_0 a1_1 a1_2 a1_3 a1_4 a1_5 a1_6 a1_7 a1_8 l1_9 l1_10)) else (wharfref14_Same.j0 k true a0_0 a0_1 a0_2 a0_3 a0_4 a0_5 a0_6 a0_7 a0_8 l0_9 l0_10 a1_0 a1_1 a1_2 a1_3 a1_4 a1_5 a1_6 a1_7 a1_8 l1_9 l1_10)) else (wharfref14_Same.j0 k true a0_0 a0_1 a0_2 a0_3 a0_4 a0_5 a0_6 a0_7 a0_8 l0_9 l0_10 a1_0 a1_1 a1_2 a1_3 a1_4 a1_5 a1_6 a1_7 a1_8 l1_9 l1_10)) else (wharfref14_Same.j0 k true a0_0 a0_1 a0_2 a0_3 a0_4 a0_5 a0_6 a0_7 a0_8 l0_9 l0_10 a1_0 a1_1 a1_2 a1_3 a1_4 a1_5 a1_6 a1_7 a1_8 l1_9 l1_10)) = some r := h
  clear h
  have HC3 := Aside0.mk H
  clear H
  go_enter Try.func36, Try.ntmps36
  go_upto_region 1 with (first | ((with_reducible refine gate_dst (N := 2) rfl ?_); (try (refine gate_guard (by rfl) ?_; dsimp only)); refine box_event ?hg (N := 2) ?hd (cs := #[.int .i64 a0_0, .string a0_1, .string a0_2, .string a0_3, .int .i64 a0_4, .int .i64 a0_5, .int .i64 a0_6, .int .i64 a0_7, .bool a0_8, .slice A0_9 l0_9.length c0_9, .slice A0_10 l0_10.length c0_10]) (t := 41) ?hr ?_; (case hd => rfl); (case hg => rfl); (case hr => first | (go_simp; done) | (go_simp; rfl)); intro gb355 hg w4 hbox hb; have n0_ := Aside0.mk (below_step (by repeat (first | (with_reducible first | exact HB.out | apply below_alloc | apply pw_below_drewN | apply below_drew1) | exact HB.out)) hb); have n1_ := Aside0.mk (hbox); have n2_ := Aside0.mk ((by rw [hg]; exact (below_size (by repeat (first | (with_reducible first | exact HB.out | apply below_alloc | apply pw_below_drewN | apply below_drew1) | exact HB.out))) : w.heap.size ≤ gb355)); have n3_ := Aside0.mk ((by rw [hg]; exact (below_size (by repeat (first | (with_reducible first | exact HB.out | apply below_alloc | apply pw_below_drewN | apply below_drew1) | exact HB.out))) : w.heap.size ≤ gb355)); clear HB; have HB := n0_; have BK355 := n1_; have GW355 := n2_; have GE355 := n3_; clear n0_ n1_ n2_ n3_; clear hb hbox hg) | ((with_reducible refine gate_dst (N := 3) rfl ?_); (try (refine gate_guard (by rfl) ?_; dsimp only)); refine box_event ?hg (N := 3) ?hd (cs := #[.int .i64 a1_0, .string a1_1, .string a1_2, .string a1_3, .int .i64 a1_4, .int .i64 a1_5, .int .i64 a1_6, .int .i64 a1_7, .bool a1_8, .slice A1_9 l1_9.length c1_9, .slice A1_10 l1_10.length c1_10]) (t := 41) ?hr ?_; (case hd => rfl); (case hg => rfl); (case hr => first | (go_simp; done) | (go_simp; rfl)); intro gb356 hg w5 hbox hb; have n0_ := Aside0.mk (blk_below (g := gb355) (o := .cells #[.int .i64 a0_0, .string a0_1, .string a0_2, .string a0_3, .int .i64 a0_4, .int .i64 a0_5, .int .i64 a0_6, .int .i64 a0_7, .bool a0_8, .slice A0_9 l0_9.length c0_9, .slice A0_10 l0_10.length c0_10] 41 (0, 0)) (by (with_reducible repeat (first | refine blk_drewN ?_ _ | refine blk_drew ?_ | refine blk_alloc ?_ _)); exact BK355.out) hb); have n1_ := Aside0.mk (below_step (by repeat (first | (with_reducible first | exact HB.out | apply below_alloc | apply pw_below_drewN | apply below_drew1 | refine below_set ?_ GE355.out) | exact HB.out)) hb); have n2_ := Aside0.mk (hbox); have n3_ := Aside0.mk ((by rw [hg]; exact (below_size (by repeat (first | (with_reducible first | exact HB.out | apply below_alloc | apply pw_below_drewN | apply below_drew1 | refine below_set ?_ GE355.out) | exact HB.out))) : w.heap.size ≤ gb356)); have n4_ := Aside0.mk ((by rw [hg]; exact (below_size (by repeat (first | (with_reducible first | exact HB.out | apply below_alloc | apply pw_below_drewN | apply below_drew1 | refine below_set ?_ GE355.out) | exact HB.out))) : w.heap.size ≤ gb356)); have n5_ := Aside0.mk ((by rw [hg]; exact Nat.ne_of_lt (blk_lt (g := gb355) (o := .cells #[.int .i64 a0_0, .string a0_1, .string a0_2, .string a0_3, .int .i64 a0_4, .int .i64 a0_5, .int .i64 a0_6, .int .i64 a0_7, .bool a0_8, .slice A0_9 l0_9.length c0_9, .slice A0_10 l0_10.length c0_10] 41 (0, 0)) (by (with_reducible repeat (first | refine blk_drewN ?_ _ | refine blk_drew ?_ | refine blk_alloc ?_ _)); exact BK355.out)) : gb355 ≠ gb356)); have n6_ := Aside0.mk ((by rw [hg]; exact Nat.ne_of_gt (blk_lt (g := gb355) (o := .cells #[.int .i64 a0_0, .string a0_1, .string a0_2, .string a0_3, .int .i64 a0_4, .int .i64 a0_5, .int .i64 a0_6, .int .i64 a0_7, .bool a0_8, .slice A0_9 l0_9.length c0_9, .slice A0_10 l0_10.length c0_10] 41 (0, 0)) (by (with_reducible repeat (first | refine blk_drewN ?_ _ | refine blk_drew ?_ | refine blk_alloc ?_ _)); exact BK355.out)) : gb356 ≠ gb355)); clear BK355; clear HB; have BK355 := n0_; have HB := n1_; have BK356 := n2_; have GW356 := n3_; have GE356 := n4_; have NB355_356 := n5_; have NB356_355 := n6_; clear n0_ n1_ n2_ n3_ n4_ n5_ n6_; clear hb hbox hg))
  repeat (go_quiet (first | ((with_reducible refine gate_dst (N := 2) rfl ?_); (try (refine gate_guard (by rfl) ?_; dsimp only)); refine box_event ?hg (N := 2) ?hd (cs := #[.int .i64 a0_0, .string a0_1, .string a0_2, .string a0_3, .int .i64 a0_4, .int .i64 a0_5, .int .i64 a0_6, .int .i64 a0_7, .bool a0_8, .slice A0_9 l0_9.length c0_9, .slice A0_10 l0_10.length c0_10]) (t := 41) ?hr ?_; (case hd => rfl); (case hg => rfl); (case hr => first | (go_simp; done) | (go_simp; rfl)); intro gb355 hg w4 hbox hb; have n0_ := Aside0.mk (below_step (by repeat (first | (with_reducible first | exact HB.out | apply below_alloc | apply pw_below_drewN | apply below_drew1) | exact HB.out)) hb); have n1_ := Aside0.mk (hbox); have n2_ := Aside0.mk ((by rw [hg]; exact (below_size (by repeat (first | (with_reducible first | exact HB.out | apply below_alloc | apply pw_below_drewN | apply below_drew1) | exact HB.out))) : w.heap.size ≤ gb355)); have n3_ := Aside0.mk ((by rw [hg]; exact (below_size (by repeat (first | (with_reducible first | exact HB.out | apply below_alloc | apply pw_below_drewN | apply below_drew1) | exact HB.out))) : w.heap.size ≤ gb355)); clear HB; have HB := n0_; have BK355 := n1_; have GW355 := n2_; have GE355 := n3_; clear n0_ n1_ n2_ n3_; clear hb hbox hg) | ((with_reducible refine gate_dst (N := 3) rfl ?_); (try (refine gate_guard (by rfl) ?_; dsimp only)); refine box_event ?hg (N := 3) ?hd (cs := #[.int .i64 a1_0, .string a1_1, .string a1_2, .string a1_3, .int .i64 a1_4, .int .i64 a1_5, .int .i64 a1_6, .int .i64 a1_7, .bool a1_8, .slice A1_9 l1_9.length c1_9, .slice A1_10 l1_10.length c1_10]) (t := 41) ?hr ?_; (case hd => rfl); (case hg => rfl); (case hr => first | (go_simp; done) | (go_simp; rfl)); intro gb356 hg w5 hbox hb; have n0_ := Aside0.mk (blk_below (g := gb355) (o := .cells #[.int .i64 a0_0, .string a0_1, .string a0_2, .string a0_3, .int .i64 a0_4, .int .i64 a0_5, .int .i64 a0_6, .int .i64 a0_7, .bool a0_8, .slice A0_9 l0_9.length c0_9, .slice A0_10 l0_10.length c0_10] 41 (0, 0)) (by (with_reducible repeat (first | refine blk_drewN ?_ _ | refine blk_drew ?_ | refine blk_alloc ?_ _)); exact BK355.out) hb); have n1_ := Aside0.mk (below_step (by repeat (first | (with_reducible first | exact HB.out | apply below_alloc | apply pw_below_drewN | apply below_drew1 | refine below_set ?_ GE355.out) | exact HB.out)) hb); have n2_ := Aside0.mk (hbox); have n3_ := Aside0.mk ((by rw [hg]; exact (below_size (by repeat (first | (with_reducible first | exact HB.out | apply below_alloc | apply pw_below_drewN | apply below_drew1 | refine below_set ?_ GE355.out) | exact HB.out))) : w.heap.size ≤ gb356)); have n4_ := Aside0.mk ((by rw [hg]; exact (below_size (by repeat (first | (with_reducible first | exact HB.out | apply below_alloc | apply pw_below_drewN | apply below_drew1 | refine below_set ?_ GE355.out) | exact HB.out))) : w.heap.size ≤ gb356)); have n5_ := Aside0.mk ((by rw [hg]; exact Nat.ne_of_lt (blk_lt (g := gb355) (o := .cells #[.int .i64 a0_0, .string a0_1, .string a0_2, .string a0_3, .int .i64 a0_4, .int .i64 a0_5, .int .i64 a0_6, .int .i64 a0_7, .bool a0_8, .slice A0_9 l0_9.length c0_9, .slice A0_10 l0_10.length c0_10] 41 (0, 0)) (by (with_reducible repeat (first | refine blk_drewN ?_ _ | refine blk_drew ?_ | refine blk_alloc ?_ _)); exact BK355.out)) : gb355 ≠ gb356)); have n6_ := Aside0.mk ((by rw [hg]; exact Nat.ne_of_gt (blk_lt (g := gb355) (o := .cells #[.int .i64 a0_0, .string a0_1, .string a0_2, .string a0_3, .int .i64 a0_4, .int .i64 a0_5, .int .i64 a0_6, .int .i64 a0_7, .bool a0_8, .slice A0_9 l0_9.length c0_9, .slice A0_10 l0_10.length c0_10] 41 (0, 0)) (by (with_reducible repeat (first | refine blk_drewN ?_ _ | refine blk_drew ?_ | refine blk_alloc ?_ _)); exact BK355.out)) : gb356 ≠ gb355)); clear BK355; clear HB; have BK355 := n0_; have HB := n1_; have BK356 := n2_; have GW356 := n3_; have GE356 := n4_; have NB355_356 := n5_; have NB356_355 := n6_; clear n0_ n1_ n2_ n3_ n4_ n5_ n6_; clear hb hbox hg)); go_upto_region 1 with (first | ((with_reducible refine gate_dst (N := 2) rfl ?_); (try (refine gate_guard (by rfl) ?_; dsimp only)); refine box_event ?hg (N := 2) ?hd (cs := #[.int .i64 a0_0, .string a0_1, .string a0_2, .string a0_3, .int .i64 a0_4, .int .i64 a0_5, .int .i64 a0_6, .int .i64 a0_7, .bool a0_8, .slice A0_9 l0_9.length c0_9, .slice A0_10 l0_10.length c0_10]) (t := 41) ?hr ?_; (case hd => rfl); (case hg => rfl); (case hr => first | (go_simp; done) | (go_simp; rfl)); intro gb355 hg w4 hbox hb; have n0_ := Aside0.mk (below_step (by repeat (first | (with_reducible first | exact HB.out | apply below_alloc | apply pw_below_drewN | apply below_drew1) | exact HB.out)) hb); have n1_ := Aside0.mk (hbox); have n2_ := Aside0.mk ((by rw [hg]; exact (below_size (by repeat (first | (with_reducible first | exact HB.out | apply below_alloc | apply pw_below_drewN | apply below_drew1) | exact HB.out))) : w.heap.size ≤ gb355)); have n3_ := Aside0.mk ((by rw [hg]; exact (below_size (by repeat (first | (with_reducible first | exact HB.out | apply below_alloc | apply pw_below_drewN | apply below_drew1) | exact HB.out))) : w.heap.size ≤ gb355)); clear HB; have HB := n0_; have BK355 := n1_; have GW355 := n2_; have GE355 := n3_; clear n0_ n1_ n2_ n3_; clear hb hbox hg) | ((with_reducible refine gate_dst (N := 3) rfl ?_); (try (refine gate_guard (by rfl) ?_; dsimp only)); refine box_event ?hg (N := 3) ?hd (cs := #[.int .i64 a1_0, .string a1_1, .string a1_2, .string a1_3, .int .i64 a1_4, .int .i64 a1_5, .int .i64 a1_6, .int .i64 a1_7, .bool a1_8, .slice A1_9 l1_9.length c1_9, .slice A1_10 l1_10.length c1_10]) (t := 41) ?hr ?_; (case hd => rfl); (case hg => rfl); (case hr => first | (go_simp; done) | (go_simp; rfl)); intro gb356 hg w5 hbox hb; have n0_ := Aside0.mk (blk_below (g := gb355) (o := .cells #[.int .i64 a0_0, .string a0_1, .string a0_2, .string a0_3, .int .i64 a0_4, .int .i64 a0_5, .int .i64 a0_6, .int .i64 a0_7, .bool a0_8, .slice A0_9 l0_9.length c0_9, .slice A0_10 l0_10.length c0_10] 41 (0, 0)) (by (with_reducible repeat (first | refine blk_drewN ?_ _ | refine blk_drew ?_ | refine blk_alloc ?_ _)); exact BK355.out) hb); have n1_ := Aside0.mk (below_step (by repeat (first | (with_reducible first | exact HB.out | apply below_alloc | apply pw_below_drewN | apply below_drew1 | refine below_set ?_ GE355.out) | exact HB.out)) hb); have n2_ := Aside0.mk (hbox); have n3_ := Aside0.mk ((by rw [hg]; exact (below_size (by repeat (first | (with_reducible first | exact HB.out | apply below_alloc | apply pw_below_drewN | apply below_drew1 | refine below_set ?_ GE355.out) | exact HB.out))) : w.heap.size ≤ gb356)); have n4_ := Aside0.mk ((by rw [hg]; exact (below_size (by repeat (first | (with_reducible first | exact HB.out | apply below_alloc | apply pw_below_drewN | apply below_drew1 | refine below_set ?_ GE355.out) | exact HB.out))) : w.heap.size ≤ gb356)); have n5_ := Aside0.mk ((by rw [hg]; exact Nat.ne_of_lt (blk_lt (g := gb355) (o := .cells #[.int .i64 a0_0, .string a0_1, .string a0_2, .string a0_3, .int .i64 a0_4, .int .i64 a0_5, .int .i64 a0_6, .int .i64 a0_7, .bool a0_8, .slice A0_9 l0_9.length c0_9, .slice A0_10 l0_10.length c0_10] 41 (0, 0)) (by (with_reducible repeat (first | refine blk_drewN ?_ _ | refine blk_drew ?_ | refine blk_alloc ?_ _)); exact BK355.out)) : gb355 ≠ gb356)); have n6_ := Aside0.mk ((by rw [hg]; exact Nat.ne_of_gt (blk_lt (g := gb355) (o := .cells #[.int .i64 a0_0, .string a0_1, .string a0_2, .string a0_3, .int .i64 a0_4, .int .i64 a0_5, .int .i64 a0_6, .int .i64 a0_7, .bool a0_8, .slice A0_9 l0_9.length c0_9, .slice A0_10 l0_10.length c0_10] 41 (0, 0)) (by (with_reducible repeat (first | refine blk_drewN ?_ _ | refine blk_drew ?_ | refine blk_alloc ?_ _)); exact BK355.out)) : gb356 ≠ gb355)); clear BK355; clear HB; have BK355 := n0_; have HB := n1_; have BK356 := n2_; have GW356 := n3_; have GE356 := n4_; have NB355_356 := n5_; have NB356_355 := n6_; clear n0_ n1_ n2_ n3_ n4_ n5_ n6_; clear hb hbox hg)))
  (try simp only [Act.put, List.setIfInBounds_toArray, List.set_cons_zero, List.set_cons_succ])
  go_cut [85] (fun v85 wc => ∃ (kq : Nat) (x85_2 : Bool), v85 = .bool x85_2 ∧ Aside0 (wharfref14_Same.j0 kq x85_2 a0_0 a0_1 a0_2 a0_3 a0_4 a0_5 a0_6 a0_7 a0_8 l0_9 l0_10 a1_0 a1_1 a1_2 a1_3 a1_4 a1_5 a1_6 a1_7 a1_8 l1_9 l1_10 = some r) ∧ Aside0 (kq ≤ k) ∧ Aside0 (wc.heap[gb355]? = some (.cells #[.int .i64 a0_0, .string a0_1, .string a0_2, .string a0_3, .int .i64 a0_4, .int .i64 a0_5, .int .i64 a0_6, .int .i64 a0_7, .bool a0_8, (.slice A0_9 l0_9.length c0_9), (.slice A0_10 l0_10.length c0_10)] 41 (0, 0))) ∧ Aside0 (wc.heap[gb356]? = some (.cells #[.int .i64 a1_0, .string a1_1, .string a1_2, .string a1_3, .int .i64 a1_4, .int .i64 a1_5, .int .i64 a1_6, .int .i64 a1_7, .bool a1_8, (.slice A1_9 l1_9.length c1_9), (.slice A1_10 l1_10.length c1_10)] 41 (0, 0))) ∧ Aside0 (Below w.heap.size w wc))
  case first =>
    have H := HC3.out
    clear HC3
    by_cases c6 : a0_0 = a1_0
    · rw [if_pos c6] at H
      have c6b0 : (a0_0 == a1_0) = true := beq_iff_eq.mpr c6
      have c6b1 : (a0_0 != a1_0) = false := bne_eq_false_iff_eq.mpr c6
      clear c6
      (first | rw [c6b0] | (simp only [i64_w, i32_w]; rw [c6b0]) | skip)
      by_cases c7 : a0_1.toList = a1_1.toList
      · rw [if_pos c7] at H
        have c7b0 : (a0_1.toList == a1_1.toList) = true := beq_iff_eq.mpr c7
        have c7b1 : (a0_1.toList != a1_1.toList) = false := bne_eq_false_iff_eq.mpr c7
        clear c7
        by_cases c8 : a0_2.toList = a1_2.toList
        · rw [if_pos c8] at H
          have c8b0 : (a0_2.toList == a1_2.toList) = true := beq_iff_eq.mpr c8
          have c8b1 : (a0_2.toList != a1_2.toList) = false := bne_eq_false_iff_eq.mpr c8
          clear c8
          by_cases c9 : a0_3.toList = a1_3.toList
          · rw [if_pos c9] at H
            have c9b0 : (a0_3.toList == a1_3.toList) = true := beq_iff_eq.mpr c9
            have c9b1 : (a0_3.toList != a1_3.toList) = false := bne_eq_false_iff_eq.mpr c9
            clear c9
            by_cases c10 : a0_4 = a1_4
            · rw [if_pos c10] at H
              have c10b0 : (a0_4 == a1_4) = true := beq_iff_eq.mpr c10
              have c10b1 : (a0_4 != a1_4) = false := bne_eq_false_iff_eq.mpr c10
              clear c10
              by_cases c11 : a0_5 = a1_5
              · rw [if_pos c11] at H
                have c11b0 : (a0_5 == a1_5) = true := beq_iff_eq.mpr c11
                have c11b1 : (a0_5 != a1_5) = false := bne_eq_false_iff_eq.mpr c11
                clear c11
                by_cases c12 : a0_6 = a1_6
                · rw [if_pos c12] at H
                  have c12b0 : (a0_6 == a1_6) = true := beq_iff_eq.mpr c12
                  have c12b1 : (a0_6 != a1_6) = false := bne_eq_false_iff_eq.mpr c12
                  clear c12
                  by_cases c13 : a0_7 = a1_7
                  · rw [if_pos c13] at H
                    have c13b0 : (a0_7 == a1_7) = true := beq_iff_eq.mpr c13
                    have c13b1 : (a0_7 != a1_7) = false := bne_eq_false_iff_eq.mpr c13
                    clear c13
                    by_cases c14 : (a0_8 != a1_8) = true
                    · rw [if_pos c14] at H
                      have c14b0 : (a0_8 != a1_8) = true := c14
                      (try (have c14b1 : decide (a0_8 = a1_8) = false := by simpa using c14))
                      (try (have c14b2 : (a0_8 == a1_8) = false := by simpa using c14))
                      (try (have c14b3 : ¬ (a0_8 = a1_8) := by simpa using c14))
                      clear c14
                      have H' := Aside0.mk H
                      clear H
                      have hnb15 := NB355_356.out
                      have hnc15 := NB356_355.out
                      have hcz16_0 : w5.cell? ⟨gb355, 0, none⟩ = some (.int .i64 a0_0) := (blk_cell BK355.out 0).trans rfl
                      have hcz16_1 : w5.cell? ⟨gb355, 1, none⟩ = some (.string a0_1) := (blk_cell BK355.out 1).trans rfl
                      have hcz16_2 : w5.cell? ⟨gb355, 2, none⟩ = some (.string a0_2) := (blk_cell BK355.out 2).trans rfl
                      have hcz16_3 : w5.cell? ⟨gb355, 3, none⟩ = some (.string a0_3) := (blk_cell BK355.out 3).trans rfl
                      have hcz16_4 : w5.cell? ⟨gb355, 4, none⟩ = some (.int .i64 a0_4) := (blk_cell BK355.out 4).trans rfl
                      have hcz16_5 : w5.cell? ⟨gb355, 5, none⟩ = some (.int .i64 a0_5) := (blk_cell BK355.out 5).trans rfl
                      have hcz16_6 : w5.cell? ⟨gb355, 6, none⟩ = some (.int .i64 a0_6) := (blk_cell BK355.out 6).trans rfl
                      have hcz16_7 : w5.cell? ⟨gb355, 7, none⟩ = some (.int .i64 a0_7) := (blk_cell BK355.out 7).trans rfl
                      have hcz16_8 : w5.cell? ⟨gb355, 8, none⟩ = some (.bool a0_8) := (blk_cell BK355.out 8).trans rfl
                      have hcz16_9 : w5.cell? ⟨gb355, 9, none⟩ = some (.slice A0_9 l0_9.length c0_9) := (blk_cell BK355.out 9).trans rfl
                      have hcz16_10 : w5.cell? ⟨gb355, 10, none⟩ = some (.slice A0_10 l0_10.length c0_10) := (blk_cell BK355.out 10).trans rfl
                      have hfz16_0 := blk_frozen BK355.out 0
                      have hfz16_1 := blk_frozen BK355.out 1
                      have hfz16_2 := blk_frozen BK355.out 2
                      have hfz16_3 := blk_frozen BK355.out 3
                      have hfz16_4 := blk_frozen BK355.out 4
                      have hfz16_5 := blk_frozen BK355.out 5
                      have hfz16_6 := blk_frozen BK355.out 6
                      have hfz16_7 := blk_frozen BK355.out 7
                      have hfz16_8 := blk_frozen BK355.out 8
                      have hfz16_9 := blk_frozen BK355.out 9
                      have hfz16_10 := blk_frozen BK355.out 10
                      have hcz17_0 : w5.cell? ⟨gb356, 0, none⟩ = some (.int .i64 a1_0) := (blk_cell BK356.out 0).trans rfl
                      have hcz17_1 : w5.cell? ⟨gb356, 1, none⟩ = some (.string a1_1) := (blk_cell BK356.out 1).trans rfl
                      have hcz17_2 : w5.cell? ⟨gb356, 2, none⟩ = some (.string a1_2) := (blk_cell BK356.out 2).trans rfl
                      have hcz17_3 : w5.cell? ⟨gb356, 3, none⟩ = some (.string a1_3) := (blk_cell BK356.out 3).trans rfl
                      have hcz17_4 : w5.cell? ⟨gb356, 4, none⟩ = some (.int .i64 a1_4) := (blk_cell BK356.out 4).trans rfl
                      have hcz17_5 : w5.cell? ⟨gb356, 5, none⟩ = some (.int .i64 a1_5) := (blk_cell BK356.out 5).trans rfl
                      have hcz17_6 : w5.cell? ⟨gb356, 6, none⟩ = some (.int .i64 a1_6) := (blk_cell BK356.out 6).trans rfl
                      have hcz17_7 : w5.cell? ⟨gb356, 7, none⟩ = some (.int .i64 a1_7) := (blk_cell BK356.out 7).trans rfl
                      have hcz17_8 : w5.cell? ⟨gb356, 8, none⟩ = some (.bool a1_8) := (blk_cell BK356.out 8).trans rfl
                      have hcz17_9 : w5.cell? ⟨gb356, 9, none⟩ = some (.slice A1_9 l1_9.length c1_9) := (blk_cell BK356.out 9).trans rfl
                      have hcz17_10 : w5.cell? ⟨gb356, 10, none⟩ = some (.slice A1_10 l1_10.length c1_10) := (blk_cell BK356.out 10).trans rfl
                      have hfz17_0 := blk_frozen BK356.out 0
                      have hfz17_1 := blk_frozen BK356.out 1
                      have hfz17_2 := blk_frozen BK356.out 2
                      have hfz17_3 := blk_frozen BK356.out 3
                      have hfz17_4 := blk_frozen BK356.out 4
                      have hfz17_5 := blk_frozen BK356.out 5
                      have hfz17_6 := blk_frozen BK356.out 6
                      have hfz17_7 := blk_frozen BK356.out 7
                      have hfz17_8 := blk_frozen BK356.out 8
                      have hfz17_9 := blk_frozen BK356.out 9
                      have hfz17_10 := blk_frozen BK356.out 10
                      go_wp2
                      repeat (go_quiet (fail); try go_wp2)
                      go_meet
                      case rel => exact ⟨_, (true), (by first | rfl | (simp; done) | (simp [*]; done)), H', ⟨by first | omega | exact Nat.le_refl _⟩, ⟨by (with_reducible repeat (first | refine blk_drewN ?_ _ | refine blk_drew ?_ | refine blk_alloc ?_ _)); exact BK355.out⟩, ⟨by (with_reducible repeat (first | refine blk_drewN ?_ _ | refine blk_drew ?_ | refine blk_alloc ?_ _)); exact BK356.out⟩, ⟨by repeat (first | (with_reducible first | exact HB.out | apply below_alloc | apply pw_below_drewN | apply below_drew1 | refine below_set ?_ GE355.out | refine below_set ?_ GE356.out) | exact HB.out)⟩⟩
                    · rw [if_neg c14] at H
                      have c14b0 : (a0_8 != a1_8) = false := by simpa using c14
                      (try (have c14b1 : decide (a0_8 = a1_8) = true := by simpa using c14))
                      (try (have c14b2 : (a0_8 == a1_8) = true := by simpa using c14))
                      clear c14
                      by_cases c18 : (l0_9.length : Int) = (l1_9.length : Int)
                      · rw [if_pos c18] at H
                        have c18b0 : ((l0_9.length : Int) == (l1_9.length : Int)) = true := beq_iff_eq.mpr c18
                        have c18b1 : ((l0_9.length : Int) != (l1_9.length : Int)) = false := bne_eq_false_iff_eq.mpr c18
                        have c18b2 : (l0_9.length == l1_9.length) = true := by first | simpa using c18 | (simp at c18 ⊢; omega)
                        clear c18
                        have H' := Aside0.mk H
                        clear H
                        have hnb19 := NB355_356.out
                        have hnc19 := NB356_355.out
                        have hcz20_0 : w5.cell? ⟨gb355, 0, none⟩ = some (.int .i64 a0_0) := (blk_cell BK355.out 0).trans rfl
                        have hcz20_1 : w5.cell? ⟨gb355, 1, none⟩ = some (.string a0_1) := (blk_cell BK355.out 1).trans rfl
                        have hcz20_2 : w5.cell? ⟨gb355, 2, none⟩ = some (.string a0_2) := (blk_cell BK355.out 2).trans rfl
                        have hcz20_3 : w5.cell? ⟨gb355, 3, none⟩ = some (.string a0_3) := (blk_cell BK355.out 3).trans rfl
                        have hcz20_4 : w5.cell? ⟨gb355, 4, none⟩ = some (.int .i64 a0_4) := (blk_cell BK355.out 4).trans rfl
                        have hcz20_5 : w5.cell? ⟨gb355, 5, none⟩ = some (.int .i64 a0_5) := (blk_cell BK355.out 5).trans rfl
                        have hcz20_6 : w5.cell? ⟨gb355, 6, none⟩ = some (.int .i64 a0_6) := (blk_cell BK355.out 6).trans rfl
                        have hcz20_7 : w5.cell? ⟨gb355, 7, none⟩ = some (.int .i64 a0_7) := (blk_cell BK355.out 7).trans rfl
                        have hcz20_8 : w5.cell? ⟨gb355, 8, none⟩ = some (.bool a0_8) := (blk_cell BK355.out 8).trans rfl
                        have hcz20_9 : w5.cell? ⟨gb355, 9, none⟩ = some (.slice A0_9 l0_9.length c0_9) := (blk_cell BK355.out 9).trans rfl
                        have hcz20_10 : w5.cell? ⟨gb355, 10, none⟩ = some (.slice A0_10 l0_10.length c0_10) := (blk_cell BK355.out 10).trans rfl
                        have hfz20_0 := blk_frozen BK355.out 0
                        have hfz20_1 := blk_frozen BK355.out 1
                        have hfz20_2 := blk_frozen BK355.out 2
                        have hfz20_3 := blk_frozen BK355.out 3
                        have hfz20_4 := blk_frozen BK355.out 4
                        have hfz20_5 := blk_frozen BK355.out 5
                        have hfz20_6 := blk_frozen BK355.out 6
                        have hfz20_7 := blk_frozen BK355.out 7
                        have hfz20_8 := blk_frozen BK355.out 8
                        have hfz20_9 := blk_frozen BK355.out 9
                        have hfz20_10 := blk_frozen BK355.out 10
                        have hcz21_0 : w5.cell? ⟨gb356, 0, none⟩ = some (.int .i64 a1_0) := (blk_cell BK356.out 0).trans rfl
                        have hcz21_1 : w5.cell? ⟨gb356, 1, none⟩ = some (.string a1_1) := (blk_cell BK356.out 1).trans rfl
                        have hcz21_2 : w5.cell? ⟨gb356, 2, none⟩ = some (.string a1_2) := (blk_cell BK356.out 2).trans rfl
                        have hcz21_3 : w5.cell? ⟨gb356, 3, none⟩ = some (.string a1_3) := (blk_cell BK356.out 3).trans rfl
                        have hcz21_4 : w5.cell? ⟨gb356, 4, none⟩ = some (.int .i64 a1_4) := (blk_cell BK356.out 4).trans rfl
                        have hcz21_5 : w5.cell? ⟨gb356, 5, none⟩ = some (.int .i64 a1_5) := (blk_cell BK356.out 5).trans rfl
                        have hcz21_6 : w5.cell? ⟨gb356, 6, none⟩ = some (.int .i64 a1_6) := (blk_cell BK356.out 6).trans rfl
                        have hcz21_7 : w5.cell? ⟨gb356, 7, none⟩ = some (.int .i64 a1_7) := (blk_cell BK356.out 7).trans rfl
                        have hcz21_8 : w5.cell? ⟨gb356, 8, none⟩ = some (.bool a1_8) := (blk_cell BK356.out 8).trans rfl
                        have hcz21_9 : w5.cell? ⟨gb356, 9, none⟩ = some (.slice A1_9 l1_9.length c1_9) := (blk_cell BK356.out 9).trans rfl
                        have hcz21_10 : w5.cell? ⟨gb356, 10, none⟩ = some (.slice A1_10 l1_10.length c1_10) := (blk_cell BK356.out 10).trans rfl
                        have hfz21_0 := blk_frozen BK356.out 0
                        have hfz21_1 := blk_frozen BK356.out 1
                        have hfz21_2 := blk_frozen BK356.out 2
                        have hfz21_3 := blk_frozen BK356.out 3
                        have hfz21_4 := blk_frozen BK356.out 4
                        have hfz21_5 := blk_frozen BK356.out 5
                        have hfz21_6 := blk_frozen BK356.out 6
                        have hfz21_7 := blk_frozen BK356.out 7
                        have hfz21_8 := blk_frozen BK356.out 8
                        have hfz21_9 := blk_frozen BK356.out 9
                        have hfz21_10 := blk_frozen BK356.out 10
                        go_wp2
                        repeat (go_quiet (fail); try go_wp2)
                        go_meet
                        case rel => exact ⟨_, (((l0_10.length : Int) != (l1_10.length : Int))), (by first | rfl | (simp; done) | (simp [*]; done)), H', ⟨by first | omega | exact Nat.le_refl _⟩, ⟨by (with_reducible repeat (first | refine blk_drewN ?_ _ | refine blk_drew ?_ | refine blk_alloc ?_ _)); exact BK355.out⟩, ⟨by (with_reducible repeat (first | refine blk_drewN ?_ _ | refine blk_drew ?_ | refine blk_alloc ?_ _)); exact BK356.out⟩, ⟨by repeat (first | (with_reducible first | exact HB.out | apply below_alloc | apply pw_below_drewN | apply below_drew1 | refine below_set ?_ GE355.out | refine below_set ?_ GE356.out) | exact HB.out)⟩⟩
                      · rw [if_neg c18] at H
                        have c18b0 : ((l0_9.length : Int) == (l1_9.length : Int)) = false := beq_eq_false_iff_ne.mpr c18
                        have c18b1 : ((l0_9.length : Int) != (l1_9.length : Int)) = true := bne_iff_ne.mpr c18
                        have c18b2 : (l0_9.length == l1_9.length) = false := by first | simpa using c18 | (simp at c18 ⊢; omega)
                        have H' := Aside0.mk H
                        clear H
                        have hnb22 := NB355_356.out
                        have hnc22 := NB356_355.out
                        have hcz23_0 : w5.cell? ⟨gb355, 0, none⟩ = some (.int .i64 a0_0) := (blk_cell BK355.out 0).trans rfl
                        have hcz23_1 : w5.cell? ⟨gb355, 1, none⟩ = some (.string a0_1) := (blk_cell BK355.out 1).trans rfl
                        have hcz23_2 : w5.cell? ⟨gb355, 2, none⟩ = some (.string a0_2) := (blk_cell BK355.out 2).trans rfl
                        have hcz23_3 : w5.cell? ⟨gb355, 3, none⟩ = some (.string a0_3) := (blk_cell BK355.out 3).trans rfl
                        have hcz23_4 : w5.cell? ⟨gb355, 4, none⟩ = some (.int .i64 a0_4) := (blk_cell BK355.out 4).trans rfl
                        have hcz23_5 : w5.cell? ⟨gb355, 5, none⟩ = some (.int .i64 a0_5) := (blk_cell BK355.out 5).trans rfl
                        have hcz23_6 : w5.cell? ⟨gb355, 6, none⟩ = some (.int .i64 a0_6) := (blk_cell BK355.out 6).trans rfl
                        have hcz23_7 : w5.cell? ⟨gb355, 7, none⟩ = some (.int .i64 a0_7) := (blk_cell BK355.out 7).trans rfl
                        have hcz23_8 : w5.cell? ⟨gb355, 8, none⟩ = some (.bool a0_8) := (blk_cell BK355.out 8).trans rfl
                        have hcz23_9 : w5.cell? ⟨gb355, 9, none⟩ = some (.slice A0_9 l0_9.length c0_9) := (blk_cell BK355.out 9).trans rfl
                        have hcz23_10 : w5.cell? ⟨gb355, 10, none⟩ = some (.slice A0_10 l0_10.length c0_10) := (blk_cell BK355.out 10).trans rfl
                        have hfz23_0 := blk_frozen BK355.out 0
                        have hfz23_1 := blk_frozen BK355.out 1
                        have hfz23_2 := blk_frozen BK355.out 2
                        have hfz23_3 := blk_frozen BK355.out 3
                        have hfz23_4 := blk_frozen BK355.out 4
                        have hfz23_5 := blk_frozen BK355.out 5
                        have hfz23_6 := blk_frozen BK355.out 6
                        have hfz23_7 := blk_frozen BK355.out 7
                        have hfz23_8 := blk_frozen BK355.out 8
                        have hfz23_9 := blk_frozen BK355.out 9
                        have hfz23_10 := blk_frozen BK355.out 10
                        have hcz24_0 : w5.cell? ⟨gb356, 0, none⟩ = some (.int .i64 a1_0) := (blk_cell BK356.out 0).trans rfl
                        have hcz24_1 : w5.cell? ⟨gb356, 1, none⟩ = some (.string a1_1) := (blk_cell BK356.out 1).trans rfl
                        have hcz24_2 : w5.cell? ⟨gb356, 2, none⟩ = some (.string a1_2) := (blk_cell BK356.out 2).trans rfl
                        have hcz24_3 : w5.cell? ⟨gb356, 3, none⟩ = some (.string a1_3) := (blk_cell BK356.out 3).trans rfl
                        have hcz24_4 : w5.cell? ⟨gb356, 4, none⟩ = some (.int .i64 a1_4) := (blk_cell BK356.out 4).trans rfl
                        have hcz24_5 : w5.cell? ⟨gb356, 5, none⟩ = some (.int .i64 a1_5) := (blk_cell BK356.out 5).trans rfl
                        have hcz24_6 : w5.cell? ⟨gb356, 6, none⟩ = some (.int .i64 a1_6) := (blk_cell BK356.out 6).trans rfl
                        have hcz24_7 : w5.cell? ⟨gb356, 7, none⟩ = some (.int .i64 a1_7) := (blk_cell BK356.out 7).trans rfl
                        have hcz24_8 : w5.cell? ⟨gb356, 8, none⟩ = some (.bool a1_8) := (blk_cell BK356.out 8).trans rfl
                        have hcz24_9 : w5.cell? ⟨gb356, 9, none⟩ = some (.slice A1_9 l1_9.length c1_9) := (blk_cell BK356.out 9).trans rfl
                        have hcz24_10 : w5.cell? ⟨gb356, 10, none⟩ = some (.slice A1_10 l1_10.length c1_10) := (blk_cell BK356.out 10).trans rfl
                        have hfz24_0 := blk_frozen BK356.out 0
                        have hfz24_1 := blk_frozen BK356.out 1
                        have hfz24_2 := blk_frozen BK356.out 2
                        have hfz24_3 := blk_frozen BK356.out 3
                        have hfz24_4 := blk_frozen BK356.out 4
                        have hfz24_5 := blk_frozen BK356.out 5
                        have hfz24_6 := blk_frozen BK356.out 6
                        have hfz24_7 := blk_frozen BK356.out 7
                        have hfz24_8 := blk_frozen BK356.out 8
                        have hfz24_9 := blk_frozen BK356.out 9
                        have hfz24_10 := blk_frozen BK356.out 10
                        go_wp2
                        repeat (go_quiet (fail); try go_wp2)
                        go_meet
                        case rel => exact ⟨_, (true), (by first | rfl | (simp; done) | (simp [*]; done)), H', ⟨by first | omega | exact Nat.le_refl _⟩, ⟨by (with_reducible repeat (first | refine blk_drewN ?_ _ | refine blk_drew ?_ | refine blk_alloc ?_ _)); exact BK355.out⟩, ⟨by (with_reducible repeat (first | refine blk_drewN ?_ _ | refine blk_drew ?_ | refine blk_alloc ?_ _)); exact BK356.out⟩, ⟨by repeat (first | (with_reducible first | exact HB.out | apply below_alloc | apply pw_below_drewN | apply below_drew1 | refine below_set ?_ GE355.out | refine below_set ?_ GE356.out) | exact HB.out)⟩⟩
                  · rw [if_neg c13] at H
                    have c13b0 : (a0_7 == a1_7) = false := beq_eq_false_iff_ne.mpr c13
                    have c13b1 : (a0_7 != a1_7) = true := bne_iff_ne.mpr c13
                    have H' := Aside0.mk H
                    clear H
                    have hnb25 := NB355_356.out
                    have hnc25 := NB356_355.out
                    have hcz26_0 : w5.cell? ⟨gb355, 0, none⟩ = some (.int .i64 a0_0) := (blk_cell BK355.out 0).trans rfl
                    have hcz26_1 : w5.cell? ⟨gb355, 1, none⟩ = some (.string a0_1) := (blk_cell BK355.out 1).trans rfl
                    have hcz26_2 : w5.cell? ⟨gb355, 2, none⟩ = some (.string a0_2) := (blk_cell BK355.out 2).trans rfl
                    have hcz26_3 : w5.cell? ⟨gb355, 3, none⟩ = some (.string a0_3) := (blk_cell BK355.out 3).trans rfl
                    have hcz26_4 : w5.cell? ⟨gb355, 4, none⟩ = some (.int .i64 a0_4) := (blk_cell BK355.out 4).trans rfl
                    have hcz26_5 : w5.cell? ⟨gb355, 5, none⟩ = some (.int .i64 a0_5) := (blk_cell BK355.out 5).trans rfl
                    have hcz26_6 : w5.cell? ⟨gb355, 6, none⟩ = some (.int .i64 a0_6) := (blk_cell BK355.out 6).trans rfl
                    have hcz26_7 : w5.cell? ⟨gb355, 7, none⟩ = some (.int .i64 a0_7) := (blk_cell BK355.out 7).trans rfl
                    have hcz26_8 : w5.cell? ⟨gb355, 8, none⟩ = some (.bool a0_8) := (blk_cell BK355.out 8).trans rfl
                    have hcz26_9 : w5.cell? ⟨gb355, 9, none⟩ = some (.slice A0_9 l0_9.length c0_9) := (blk_cell BK355.out 9).trans rfl
                    have hcz26_10 : w5.cell? ⟨gb355, 10, none⟩ = some (.slice A0_10 l0_10.length c0_10) := (blk_cell BK355.out 10).trans rfl
                    have hfz26_0 := blk_frozen BK355.out 0
                    have hfz26_1 := blk_frozen BK355.out 1
                    have hfz26_2 := blk_frozen BK355.out 2
                    have hfz26_3 := blk_frozen BK355.out 3
                    have hfz26_4 := blk_frozen BK355.out 4
                    have hfz26_5 := blk_frozen BK355.out 5
                    have hfz26_6 := blk_frozen BK355.out 6
                    have hfz26_7 := blk_frozen BK355.out 7
                    have hfz26_8 := blk_frozen BK355.out 8
                    have hfz26_9 := blk_frozen BK355.out 9
                    have hfz26_10 := blk_frozen BK355.out 10
                    have hcz27_0 : w5.cell? ⟨gb356, 0, none⟩ = some (.int .i64 a1_0) := (blk_cell BK356.out 0).trans rfl
                    have hcz27_1 : w5.cell? ⟨gb356, 1, none⟩ = some (.string a1_1) := (blk_cell BK356.out 1).trans rfl
                    have hcz27_2 : w5.cell? ⟨gb356, 2, none⟩ = some (.string a1_2) := (blk_cell BK356.out 2).trans rfl
                    have hcz27_3 : w5.cell? ⟨gb356, 3, none⟩ = some (.string a1_3) := (blk_cell BK356.out 3).trans rfl
                    have hcz27_4 : w5.cell? ⟨gb356, 4, none⟩ = some (.int .i64 a1_4) := (blk_cell BK356.out 4).trans rfl
                    have hcz27_5 : w5.cell? ⟨gb356, 5, none⟩ = some (.int .i64 a1_5) := (blk_cell BK356.out 5).trans rfl
                    have hcz27_6 : w5.cell? ⟨gb356, 6, none⟩ = some (.int .i64 a1_6) := (blk_cell BK356.out 6).trans rfl
                    have hcz27_7 : w5.cell? ⟨gb356, 7, none⟩ = some (.int .i64 a1_7) := (blk_cell BK356.out 7).trans rfl
                    have hcz27_8 : w5.cell? ⟨gb356, 8, none⟩ = some (.bool a1_8) := (blk_cell BK356.out 8).trans rfl
                    have hcz27_9 : w5.cell? ⟨gb356, 9, none⟩ = some (.slice A1_9 l1_9.length c1_9) := (blk_cell BK356.out 9).trans rfl
                    have hcz27_10 : w5.cell? ⟨gb356, 10, none⟩ = some (.slice A1_10 l1_10.length c1_10) := (blk_cell BK356.out 10).trans rfl
                    have hfz27_0 := blk_frozen BK356.out 0
                    have hfz27_1 := blk_frozen BK356.out 1
                    have hfz27_2 := blk_frozen BK356.out 2
                    have hfz27_3 := blk_frozen BK356.out 3
                    have hfz27_4 := blk_frozen BK356.out 4
                    have hfz27_5 := blk_frozen BK356.out 5
                    have hfz27_6 := blk_frozen BK356.out 6
                    have hfz27_7 := blk_frozen BK356.out 7
                    have hfz27_8 := blk_frozen BK356.out 8
                    have hfz27_9 := blk_frozen BK356.out 9
                    have hfz27_10 := blk_frozen BK356.out 10
                    go_wp2
                    repeat (go_quiet (fail); try go_wp2)
                    go_meet
                    case rel => exact ⟨_, (true), (by first | rfl | (simp; done) | (simp [*]; done)), H', ⟨by first | omega | exact Nat.le_refl _⟩, ⟨by (with_reducible repeat (first | refine blk_drewN ?_ _ | refine blk_drew ?_ | refine blk_alloc ?_ _)); exact BK355.out⟩, ⟨by (with_reducible repeat (first | refine blk_drewN ?_ _ | refine blk_drew ?_ | refine blk_alloc ?_ _)); exact BK356.out⟩, ⟨by repeat (first | (with_reducible first | exact HB.out | apply below_alloc | apply pw_below_drewN | apply below_drew1 | refine below_set ?_ GE355.out | refine below_set ?_ GE356.out) | exact HB.out)⟩⟩
                · rw [if_neg c12] at H
                  have c12b0 : (a0_6 == a1_6) = false := beq_eq_false_iff_ne.mpr c12
                  have c12b1 : (a0_6 != a1_6) = true := bne_iff_ne.mpr c12
                  have H' := Aside0.mk H
                  clear H
                  have hnb28 := NB355_356.out
                  have hnc28 := NB356_355.out
                  have hcz29_0 : w5.cell? ⟨gb355, 0, none⟩ = some (.int .i64 a0_0) := (blk_cell BK355.out 0).trans rfl
                  have hcz29_1 : w5.cell? ⟨gb355, 1, none⟩ = some (.string a0_1) := (blk_cell BK355.out 1).trans rfl
                  have hcz29_2 : w5.cell? ⟨gb355, 2, none⟩ = some (.string a0_2) := (blk_cell BK355.out 2).trans rfl
                  have hcz29_3 : w5.cell? ⟨gb355, 3, none⟩ = some (.string a0_3) := (blk_cell BK355.out 3).trans rfl
                  have hcz29_4 : w5.cell? ⟨gb355, 4, none⟩ = some (.int .i64 a0_4) := (blk_cell BK355.out 4).trans rfl
                  have hcz29_5 : w5.cell? ⟨gb355, 5, none⟩ = some (.int .i64 a0_5) := (blk_cell BK355.out 5).trans rfl
                  have hcz29_6 : w5.cell? ⟨gb355, 6, none⟩ = some (.int .i64 a0_6) := (blk_cell BK355.out 6).trans rfl
                  have hcz29_7 : w5.cell? ⟨gb355, 7, none⟩ = some (.int .i64 a0_7) := (blk_cell BK355.out 7).trans rfl
                  have hcz29_8 : w5.cell? ⟨gb355, 8, none⟩ = some (.bool a0_8) := (blk_cell BK355.out 8).trans rfl
                  have hcz29_9 : w5.cell? ⟨gb355, 9, none⟩ = some (.slice A0_9 l0_9.length c0_9) := (blk_cell BK355.out 9).trans rfl
                  have hcz29_10 : w5.cell? ⟨gb355, 10, none⟩ = some (.slice A0_10 l0_10.length c0_10) := (blk_cell BK355.out 10).trans rfl
                  have hfz29_0 := blk_frozen BK355.out 0
                  have hfz29_1 := blk_frozen BK355.out 1
                  have hfz29_2 := blk_frozen BK355.out 2
                  have hfz29_3 := blk_frozen BK355.out 3
                  have hfz29_4 := blk_frozen BK355.out 4
                  have hfz29_5 := blk_frozen BK355.out 5
                  have hfz29_6 := blk_frozen BK355.out 6
                  have hfz29_7 := blk_frozen BK355.out 7
                  have hfz29_8 := blk_frozen BK355.out 8
                  have hfz29_9 := blk_frozen BK355.out 9
                  have hfz29_10 := blk_frozen BK355.out 10
                  have hcz30_0 : w5.cell? ⟨gb356, 0, none⟩ = some (.int .i64 a1_0) := (blk_cell BK356.out 0).trans rfl
                  have hcz30_1 : w5.cell? ⟨gb356, 1, none⟩ = some (.string a1_1) := (blk_cell BK356.out 1).trans rfl
                  have hcz30_2 : w5.cell? ⟨gb356, 2, none⟩ = some (.string a1_2) := (blk_cell BK356.out 2).trans rfl
                  have hcz30_3 : w5.cell? ⟨gb356, 3, none⟩ = some (.string a1_3) := (blk_cell BK356.out 3).trans rfl
                  have hcz30_4 : w5.cell? ⟨gb356, 4, none⟩ = some (.int .i64 a1_4) := (blk_cell BK356.out 4).trans rfl
                  have hcz30_5 : w5.cell? ⟨gb356, 5, none⟩ = some (.int .i64 a1_5) := (blk_cell BK356.out 5).trans rfl
                  have hcz30_6 : w5.cell? ⟨gb356, 6, none⟩ = some (.int .i64 a1_6) := (blk_cell BK356.out 6).trans rfl
                  have hcz30_7 : w5.cell? ⟨gb356, 7, none⟩ = some (.int .i64 a1_7) := (blk_cell BK356.out 7).trans rfl
                  have hcz30_8 : w5.cell? ⟨gb356, 8, none⟩ = some (.bool a1_8) := (blk_cell BK356.out 8).trans rfl
                  have hcz30_9 : w5.cell? ⟨gb356, 9, none⟩ = some (.slice A1_9 l1_9.length c1_9) := (blk_cell BK356.out 9).trans rfl
                  have hcz30_10 : w5.cell? ⟨gb356, 10, none⟩ = some (.slice A1_10 l1_10.length c1_10) := (blk_cell BK356.out 10).trans rfl
                  have hfz30_0 := blk_frozen BK356.out 0
                  have hfz30_1 := blk_frozen BK356.out 1
                  have hfz30_2 := blk_frozen BK356.out 2
                  have hfz30_3 := blk_frozen BK356.out 3
                  have hfz30_4 := blk_frozen BK356.out 4
                  have hfz30_5 := blk_frozen BK356.out 5
                  have hfz30_6 := blk_frozen BK356.out 6
                  have hfz30_7 := blk_frozen BK356.out 7
                  have hfz30_8 := blk_frozen BK356.out 8
                  have hfz30_9 := blk_frozen BK356.out 9
                  have hfz30_10 := blk_frozen BK356.out 10
                  go_wp2
                  repeat (go_quiet (fail); try go_wp2)
                  go_meet
                  case rel => exact ⟨_, (true), (by first | rfl | (simp; done) | (simp [*]; done)), H', ⟨by first | omega | exact Nat.le_refl _⟩, ⟨by (with_reducible repeat (first | refine blk_drewN ?_ _ | refine blk_drew ?_ | refine blk_alloc ?_ _)); exact BK355.out⟩, ⟨by (with_reducible repeat (first | refine blk_drewN ?_ _ | refine blk_drew ?_ | refine blk_alloc ?_ _)); exact BK356.out⟩, ⟨by repeat (first | (with_reducible first | exact HB.out | apply below_alloc | apply pw_below_drewN | apply below_drew1 | refine below_set ?_ GE355.out | refine below_set ?_ GE356.out) | exact HB.out)⟩⟩
              · rw [if_neg c11] at H
                have c11b0 : (a0_5 == a1_5) = false := beq_eq_false_iff_ne.mpr c11
                have c11b1 : (a0_5 != a1_5) = true := bne_iff_ne.mpr c11
                have H' := Aside0.mk H
                clear H
                have hnb31 := NB355_356.out
                have hnc31 := NB356_355.out
                have hcz32_0 : w5.cell? ⟨gb355, 0, none⟩ = some (.int .i64 a0_0) := (blk_cell BK355.out 0).trans rfl
                have hcz32_1 : w5.cell? ⟨gb355, 1, none⟩ = some (.string a0_1) := (blk_cell BK355.out 1).trans rfl
                have hcz32_2 : w5.cell? ⟨gb355, 2, none⟩ = some (.string a0_2) := (blk_cell BK355.out 2).trans rfl
                have hcz32_3 : w5.cell? ⟨gb355, 3, none⟩ = some (.string a0_3) := (blk_cell BK355.out 3).trans rfl
                have hcz32_4 : w5.cell? ⟨gb355, 4, none⟩ = some (.int .i64 a0_4) := (blk_cell BK355.out 4).trans rfl
                have hcz32_5 : w5.cell? ⟨gb355, 5, none⟩ = some (.int .i64 a0_5) := (blk_cell BK355.out 5).trans rfl
                have hcz32_6 : w5.cell? ⟨gb355, 6, none⟩ = some (.int .i64 a0_6) := (blk_cell BK355.out 6).trans rfl
                have hcz32_7 : w5.cell? ⟨gb355, 7, none⟩ = some (.int .i64 a0_7) := (blk_cell BK355.out 7).trans rfl
                have hcz32_8 : w5.cell? ⟨gb355, 8, none⟩ = some (.bool a0_8) := (blk_cell BK355.out 8).trans rfl
                have hcz32_9 : w5.cell? ⟨gb355, 9, none⟩ = some (.slice A0_9 l0_9.length c0_9) := (blk_cell BK355.out 9).trans rfl
                have hcz32_10 : w5.cell? ⟨gb355, 10, none⟩ = some (.slice A0_10 l0_10.length c0_10) := (blk_cell BK355.out 10).trans rfl
                have hfz32_0 := blk_frozen BK355.out 0
                have hfz32_1 := blk_frozen BK355.out 1
                have hfz32_2 := blk_frozen BK355.out 2
                have hfz32_3 := blk_frozen BK355.out 3
                have hfz32_4 := blk_frozen BK355.out 4
                have hfz32_5 := blk_frozen BK355.out 5
                have hfz32_6 := blk_frozen BK355.out 6
                have hfz32_7 := blk_frozen BK355.out 7
                have hfz32_8 := blk_frozen BK355.out 8
                have hfz32_9 := blk_frozen BK355.out 9
                have hfz32_10 := blk_frozen BK355.out 10
                have hcz33_0 : w5.cell? ⟨gb356, 0, none⟩ = some (.int .i64 a1_0) := (blk_cell BK356.out 0).trans rfl
                have hcz33_1 : w5.cell? ⟨gb356, 1, none⟩ = some (.string a1_1) := (blk_cell BK356.out 1).trans rfl
                have hcz33_2 : w5.cell? ⟨gb356, 2, none⟩ = some (.string a1_2) := (blk_cell BK356.out 2).trans rfl
                have hcz33_3 : w5.cell? ⟨gb356, 3, none⟩ = some (.string a1_3) := (blk_cell BK356.out 3).trans rfl
                have hcz33_4 : w5.cell? ⟨gb356, 4, none⟩ = some (.int .i64 a1_4) := (blk_cell BK356.out 4).trans rfl
                have hcz33_5 : w5.cell? ⟨gb356, 5, none⟩ = some (.int .i64 a1_5) := (blk_cell BK356.out 5).trans rfl
                have hcz33_6 : w5.cell? ⟨gb356, 6, none⟩ = some (.int .i64 a1_6) := (blk_cell BK356.out 6).trans rfl
                have hcz33_7 : w5.cell? ⟨gb356, 7, none⟩ = some (.int .i64 a1_7) := (blk_cell BK356.out 7).trans rfl
                have hcz33_8 : w5.cell? ⟨gb356, 8, none⟩ = some (.bool a1_8) := (blk_cell BK356.out 8).trans rfl
                have hcz33_9 : w5.cell? ⟨gb356, 9, none⟩ = some (.slice A1_9 l1_9.length c1_9) := (blk_cell BK356.out 9).trans rfl
                have hcz33_10 : w5.cell? ⟨gb356, 10, none⟩ = some (.slice A1_10 l1_10.length c1_10) := (blk_cell BK356.out 10).trans rfl
                have hfz33_0 := blk_frozen BK356.out 0
                have hfz33_1 := blk_frozen BK356.out 1
                have hfz33_2 := blk_frozen BK356.out 2
                have hfz33_3 := blk_frozen BK356.out 3
                have hfz33_4 := blk_frozen BK356.out 4
                have hfz33_5 := blk_frozen BK356.out 5
                have hfz33_6 := blk_frozen BK356.out 6
                have hfz33_7 := blk_frozen BK356.out 7
                have hfz33_8 := blk_frozen BK356.out 8
                have hfz33_9 := blk_frozen BK356.out 9
                have hfz33_10 := blk_frozen BK356.out 10
                go_wp2
                repeat (go_quiet (fail); try go_wp2)
                go_meet
                case rel => exact ⟨_, (true), (by first | rfl | (simp; done) | (simp [*]; done)), H', ⟨by first | omega | exact Nat.le_refl _⟩, ⟨by (with_reducible repeat (first | refine blk_drewN ?_ _ | refine blk_drew ?_ | refine blk_alloc ?_ _)); exact BK355.out⟩, ⟨by (with_reducible repeat (first | refine blk_drewN ?_ _ | refine blk_drew ?_ | refine blk_alloc ?_ _)); exact BK356.out⟩, ⟨by repeat (first | (with_reducible first | exact HB.out | apply below_alloc | apply pw_below_drewN | apply below_drew1 | refine below_set ?_ GE355.out | refine below_set ?_ GE356.out) | exact HB.out)⟩⟩
            · rw [if_neg c10] at H
              have c10b0 : (a0_4 == a1_4) = false := beq_eq_false_iff_ne.mpr c10
              have c10b1 : (a0_4 != a1_4) = true := bne_iff_ne.mpr c10
              have H' := Aside0.mk H
              clear H
              have hnb34 := NB355_356.out
              have hnc34 := NB356_355.out
              have hcz35_0 : w5.cell? ⟨gb355, 0, none⟩ = some (.int .i64 a0_0) := (blk_cell BK355.out 0).trans rfl
              have hcz35_1 : w5.cell? ⟨gb355, 1, none⟩ = some (.string a0_1) := (blk_cell BK355.out 1).trans rfl
              have hcz35_2 : w5.cell? ⟨gb355, 2, none⟩ = some (.string a0_2) := (blk_cell BK355.out 2).trans rfl
              have hcz35_3 : w5.cell? ⟨gb355, 3, none⟩ = some (.string a0_3) := (blk_cell BK355.out 3).trans rfl
              have hcz35_4 : w5.cell? ⟨gb355, 4, none⟩ = some (.int .i64 a0_4) := (blk_cell BK355.out 4).trans rfl
              have hcz35_5 : w5.cell? ⟨gb355, 5, none⟩ = some (.int .i64 a0_5) := (blk_cell BK355.out 5).trans rfl
              have hcz35_6 : w5.cell? ⟨gb355, 6, none⟩ = some (.int .i64 a0_6) := (blk_cell BK355.out 6).trans rfl
              have hcz35_7 : w5.cell? ⟨gb355, 7, none⟩ = some (.int .i64 a0_7) := (blk_cell BK355.out 7).trans rfl
              have hcz35_8 : w5.cell? ⟨gb355, 8, none⟩ = some (.bool a0_8) := (blk_cell BK355.out 8).trans rfl
              have hcz35_9 : w5.cell? ⟨gb355, 9, none⟩ = some (.slice A0_9 l0_9.length c0_9) := (blk_cell BK355.out 9).trans rfl
              have hcz35_10 : w5.cell? ⟨gb355, 10, none⟩ = some (.slice A0_10 l0_10.length c0_10) := (blk_cell BK355.out 10).trans rfl
              have hfz35_0 := blk_frozen BK355.out 0
              have hfz35_1 := blk_frozen BK355.out 1
              have hfz35_2 := blk_frozen BK355.out 2
              have hfz35_3 := blk_frozen BK355.out 3
              have hfz35_4 := blk_frozen BK355.out 4
              have hfz35_5 := blk_frozen BK355.out 5
              have hfz35_6 := blk_frozen BK355.out 6
              have hfz35_7 := blk_frozen BK355.out 7
              have hfz35_8 := blk_frozen BK355.out 8
              have hfz35_9 := blk_frozen BK355.out 9
              have hfz35_10 := blk_frozen BK355.out 10
              have hcz36_0 : w5.cell? ⟨gb356, 0, none⟩ = some (.int .i64 a1_0) := (blk_cell BK356.out 0).trans rfl
              have hcz36_1 : w5.cell? ⟨gb356, 1, none⟩ = some (.string a1_1) := (blk_cell BK356.out 1).trans rfl
              have hcz36_2 : w5.cell? ⟨gb356, 2, none⟩ = some (.string a1_2) := (blk_cell BK356.out 2).trans rfl
              have hcz36_3 : w5.cell? ⟨gb356, 3, none⟩ = some (.string a1_3) := (blk_cell BK356.out 3).trans rfl
              have hcz36_4 : w5.cell? ⟨gb356, 4, none⟩ = some (.int .i64 a1_4) := (blk_cell BK356.out 4).trans rfl
              have hcz36_5 : w5.cell? ⟨gb356, 5, none⟩ = some (.int .i64 a1_5) := (blk_cell BK356.out 5).trans rfl
              have hcz36_6 : w5.cell? ⟨gb356, 6, none⟩ = some (.int .i64 a1_6) := (blk_cell BK356.out 6).trans rfl
              have hcz36_7 : w5.cell? ⟨gb356, 7, none⟩ = some (.int .i64 a1_7) := (blk_cell BK356.out 7).trans rfl
              have hcz36_8 : w5.cell? ⟨gb356, 8, none⟩ = some (.bool a1_8) := (blk_cell BK356.out 8).trans rfl
              have hcz36_9 : w5.cell? ⟨gb356, 9, none⟩ = some (.slice A1_9 l1_9.length c1_9) := (blk_cell BK356.out 9).trans rfl
              have hcz36_10 : w5.cell? ⟨gb356, 10, none⟩ = some (.slice A1_10 l1_10.length c1_10) := (blk_cell BK356.out 10).trans rfl
              have hfz36_0 := blk_frozen BK356.out 0
              have hfz36_1 := blk_frozen BK356.out 1
              have hfz36_2 := blk_frozen BK356.out 2
              have hfz36_3 := blk_frozen BK356.out 3
              have hfz36_4 := blk_frozen BK356.out 4
              have hfz36_5 := blk_frozen BK356.out 5
              have hfz36_6 := blk_frozen BK356.out 6
              have hfz36_7 := blk_frozen BK356.out 7
              have hfz36_8 := blk_frozen BK356.out 8
              have hfz36_9 := blk_frozen BK356.out 9
              have hfz36_10 := blk_frozen BK356.out 10
              go_wp2
              repeat (go_quiet (fail); try go_wp2)
              go_meet
              case rel => exact ⟨_, (true), (by first | rfl | (simp; done) | (simp [*]; done)), H', ⟨by first | omega | exact Nat.le_refl _⟩, ⟨by (with_reducible repeat (first | refine blk_drewN ?_ _ | refine blk_drew ?_ | refine blk_alloc ?_ _)); exact BK355.out⟩, ⟨by (with_reducible repeat (first | refine blk_drewN ?_ _ | refine blk_drew ?_ | refine blk_alloc ?_ _)); exact BK356.out⟩, ⟨by repeat (first | (with_reducible first | exact HB.out | apply below_alloc | apply pw_below_drewN | apply below_drew1 | refine below_set ?_ GE355.out | refine below_set ?_ GE356.out) | exact HB.out)⟩⟩
          · rw [if_neg c9] at H
            have c9b0 : (a0_3.toList == a1_3.toList) = false := beq_eq_false_iff_ne.mpr c9
            have c9b1 : (a0_3.toList != a1_3.toList) = true := bne_iff_ne.mpr c9
            have H' := Aside0.mk H
            clear H
            have hnb37 := NB355_356.out
            have hnc37 := NB356_355.out
            have hcz38_0 : w5.cell? ⟨gb355, 0, none⟩ = some (.int .i64 a0_0) := (blk_cell BK355.out 0).trans rfl
            have hcz38_1 : w5.cell? ⟨gb355, 1, none⟩ = some (.string a0_1) := (blk_cell BK355.out 1).trans rfl
            have hcz38_2 : w5.cell? ⟨gb355, 2, none⟩ = some (.string a0_2) := (blk_cell BK355.out 2).trans rfl
            have hcz38_3 : w5.cell? ⟨gb355, 3, none⟩ = some (.string a0_3) := (blk_cell BK355.out 3).trans rfl
            have hcz38_4 : w5.cell? ⟨gb355, 4, none⟩ = some (.int .i64 a0_4) := (blk_cell BK355.out 4).trans rfl
            have hcz38_5 : w5.cell? ⟨gb355, 5, none⟩ = some (.int .i64 a0_5) := (blk_cell BK355.out 5).trans rfl
            have hcz38_6 : w5.cell? ⟨gb355, 6, none⟩ = some (.int .i64 a0_6) := (blk_cell BK355.out 6).trans rfl
            have hcz38_7 : w5.cell? ⟨gb355, 7, none⟩ = some (.int .i64 a0_7) := (blk_cell BK355.out 7).trans rfl
            have hcz38_8 : w5.cell? ⟨gb355, 8, none⟩ = some (.bool a0_8) := (blk_cell BK355.out 8).trans rfl
            have hcz38_9 : w5.cell? ⟨gb355, 9, none⟩ = some (.slice A0_9 l0_9.length c0_9) := (blk_cell BK355.out 9).trans rfl
            have hcz38_10 : w5.cell? ⟨gb355, 10, none⟩ = some (.slice A0_10 l0_10.length c0_10) := (blk_cell BK355.out 10).trans rfl
            have hfz38_0 := blk_frozen BK355.out 0
            have hfz38_1 := blk_frozen BK355.out 1
            have hfz38_2 := blk_frozen BK355.out 2
            have hfz38_3 := blk_frozen BK355.out 3
            have hfz38_4 := blk_frozen BK355.out 4
            have hfz38_5 := blk_frozen BK355.out 5
            have hfz38_6 := blk_frozen BK355.out 6
            have hfz38_7 := blk_frozen BK355.out 7
            have hfz38_8 := blk_frozen BK355.out 8
            have hfz38_9 := blk_frozen BK355.out 9
            have hfz38_10 := blk_frozen BK355.out 10
            have hcz39_0 : w5.cell? ⟨gb356, 0, none⟩ = some (.int .i64 a1_0) := (blk_cell BK356.out 0).trans rfl
            have hcz39_1 : w5.cell? ⟨gb356, 1, none⟩ = some (.string a1_1) := (blk_cell BK356.out 1).trans rfl
            have hcz39_2 : w5.cell? ⟨gb356, 2, none⟩ = some (.string a1_2) := (blk_cell BK356.out 2).trans rfl
            have hcz39_3 : w5.cell? ⟨gb356, 3, none⟩ = some (.string a1_3) := (blk_cell BK356.out 3).trans rfl
            have hcz39_4 : w5.cell? ⟨gb356, 4, none⟩ = some (.int .i64 a1_4) := (blk_cell BK356.out 4).trans rfl
            have hcz39_5 : w5.cell? ⟨gb356, 5, none⟩ = some (.int .i64 a1_5) := (blk_cell BK356.out 5).trans rfl
            have hcz39_6 : w5.cell? ⟨gb356, 6, none⟩ = some (.int .i64 a1_6) := (blk_cell BK356.out 6).trans rfl
            have hcz39_7 : w5.cell? ⟨gb356, 7, none⟩ = some (.int .i64 a1_7) := (blk_cell BK356.out 7).trans rfl
            have hcz39_8 : w5.cell? ⟨gb356, 8, none⟩ = some (.bool a1_8) := (blk_cell BK356.out 8).trans rfl
            have hcz39_9 : w5.cell? ⟨gb356, 9, none⟩ = some (.slice A1_9 l1_9.length c1_9) := (blk_cell BK356.out 9).trans rfl
            have hcz39_10 : w5.cell? ⟨gb356, 10, none⟩ = some (.slice A1_10 l1_10.length c1_10) := (blk_cell BK356.out 10).trans rfl
            have hfz39_0 := blk_frozen BK356.out 0
            have hfz39_1 := blk_frozen BK356.out 1
            have hfz39_2 := blk_frozen BK356.out 2
            have hfz39_3 := blk_frozen BK356.out 3
            have hfz39_4 := blk_frozen BK356.out 4
            have hfz39_5 := blk_frozen BK356.out 5
            have hfz39_6 := blk_frozen BK356.out 6
            have hfz39_7 := blk_frozen BK356.out 7
            have hfz39_8 := blk_frozen BK356.out 8
            have hfz39_9 := blk_frozen BK356.out 9
            have hfz39_10 := blk_frozen BK356.out 10
            go_wp2
            repeat (go_quiet (fail); try go_wp2)
            go_meet
            case rel => exact ⟨_, (true), (by first | rfl | (simp; done) | (simp [*]; done)), H', ⟨by first | omega | exact Nat.le_refl _⟩, ⟨by (with_reducible repeat (first | refine blk_drewN ?_ _ | refine blk_drew ?_ | refine blk_alloc ?_ _)); exact BK355.out⟩, ⟨by (with_reducible repeat (first | refine blk_drewN ?_ _ | refine blk_drew ?_ | refine blk_alloc ?_ _)); exact BK356.out⟩, ⟨by repeat (first | (with_reducible first | exact HB.out | apply below_alloc | apply pw_below_drewN | apply below_drew1 | refine below_set ?_ GE355.out | refine below_set ?_ GE356.out) | exact HB.out)⟩⟩
        · rw [if_neg c8] at H
          have c8b0 : (a0_2.toList == a1_2.toList) = false := beq_eq_false_iff_ne.mpr c8
          have c8b1 : (a0_2.toList != a1_2.toList) = true := bne_iff_ne.mpr c8
          have H' := Aside0.mk H
          clear H
          have hnb40 := NB355_356.out
          have hnc40 := NB356_355.out
          have hcz41_0 : w5.cell? ⟨gb355, 0, none⟩ = some (.int .i64 a0_0) := (blk_cell BK355.out 0).trans rfl
          have hcz41_1 : w5.cell? ⟨gb355, 1, none⟩ = some (.string a0_1) := (blk_cell BK355.out 1).trans rfl
          have hcz41_2 : w5.cell? ⟨gb355, 2, none⟩ = some (.string a0_2) := (blk_cell BK355.out 2).trans rfl
          have hcz41_3 : w5.cell? ⟨gb355, 3, none⟩ = some (.string a0_3) := (blk_cell BK355.out 3).trans rfl
          have hcz41_4 : w5.cell? ⟨gb355, 4, none⟩ = some (.int .i64 a0_4) := (blk_cell BK355.out 4).trans rfl
          have hcz41_5 : w5.cell? ⟨gb355, 5, none⟩ = some (.int .i64 a0_5) := (blk_cell BK355.out 5).trans rfl
          have hcz41_6 : w5.cell? ⟨gb355, 6, none⟩ = some (.int .i64 a0_6) := (blk_cell BK355.out 6).trans rfl
          have hcz41_7 : w5.cell? ⟨gb355, 7, none⟩ = some (.int .i64 a0_7) := (blk_cell BK355.out 7).trans rfl
          have hcz41_8 : w5.cell? ⟨gb355, 8, none⟩ = some (.bool a0_8) := (blk_cell BK355.out 8).trans rfl
          have hcz41_9 : w5.cell? ⟨gb355, 9, none⟩ = some (.slice A0_9 l0_9.length c0_9) := (blk_cell BK355.out 9).trans rfl
          have hcz41_10 : w5.cell? ⟨gb355, 10, none⟩ = some (.slice A0_10 l0_10.length c0_10) := (blk_cell BK355.out 10).trans rfl
          have hfz41_0 := blk_frozen BK355.out 0
          have hfz41_1 := blk_frozen BK355.out 1
          have hfz41_2 := blk_frozen BK355.out 2
          have hfz41_3 := blk_frozen BK355.out 3
          have hfz41_4 := blk_frozen BK355.out 4
          have hfz41_5 := blk_frozen BK355.out 5
          have hfz41_6 := blk_frozen BK355.out 6
          have hfz41_7 := blk_frozen BK355.out 7
          have hfz41_8 := blk_frozen BK355.out 8
          have hfz41_9 := blk_frozen BK355.out 9
          have hfz41_10 := blk_frozen BK355.out 10
          have hcz42_0 : w5.cell? ⟨gb356, 0, none⟩ = some (.int .i64 a1_0) := (blk_cell BK356.out 0).trans rfl
          have hcz42_1 : w5.cell? ⟨gb356, 1, none⟩ = some (.string a1_1) := (blk_cell BK356.out 1).trans rfl
          have hcz42_2 : w5.cell? ⟨gb356, 2, none⟩ = some (.string a1_2) := (blk_cell BK356.out 2).trans rfl
          have hcz42_3 : w5.cell? ⟨gb356, 3, none⟩ = some (.string a1_3) := (blk_cell BK356.out 3).trans rfl
          have hcz42_4 : w5.cell? ⟨gb356, 4, none⟩ = some (.int .i64 a1_4) := (blk_cell BK356.out 4).trans rfl
          have hcz42_5 : w5.cell? ⟨gb356, 5, none⟩ = some (.int .i64 a1_5) := (blk_cell BK356.out 5).trans rfl
          have hcz42_6 : w5.cell? ⟨gb356, 6, none⟩ = some (.int .i64 a1_6) := (blk_cell BK356.out 6).trans rfl
          have hcz42_7 : w5.cell? ⟨gb356, 7, none⟩ = some (.int .i64 a1_7) := (blk_cell BK356.out 7).trans rfl
          have hcz42_8 : w5.cell? ⟨gb356, 8, none⟩ = some (.bool a1_8) := (blk_cell BK356.out 8).trans rfl
          have hcz42_9 : w5.cell? ⟨gb356, 9, none⟩ = some (.slice A1_9 l1_9.length c1_9) := (blk_cell BK356.out 9).trans rfl
          have hcz42_10 : w5.cell? ⟨gb356, 10, none⟩ = some (.slice A1_10 l1_10.length c1_10) := (blk_cell BK356.out 10).trans rfl
          have hfz42_0 := blk_frozen BK356.out 0
          have hfz42_1 := blk_frozen BK356.out 1
          have hfz42_2 := blk_frozen BK356.out 2
          have hfz42_3 := blk_frozen BK356.out 3
          have hfz42_4 := blk_frozen BK356.out 4
          have hfz42_5 := blk_frozen BK356.out 5
          have hfz42_6 := blk_frozen BK356.out 6
          have hfz42_7 := blk_frozen BK356.out 7
          have hfz42_8 := blk_frozen BK356.out 8
          have hfz42_9 := blk_frozen BK356.out 9
          have hfz42_10 := blk_frozen BK356.out 10
          go_wp2
          repeat (go_quiet (fail); try go_wp2)
          go_meet
          case rel => exact ⟨_, (true), (by first | rfl | (simp; done) | (simp [*]; done)), H', ⟨by first | omega | exact Nat.le_refl _⟩, ⟨by (with_reducible repeat (first | refine blk_drewN ?_ _ | refine blk_drew ?_ | refine blk_alloc ?_ _)); exact BK355.out⟩, ⟨by (with_reducible repeat (first | refine blk_drewN ?_ _ | refine blk_drew ?_ | refine blk_alloc ?_ _)); exact BK356.out⟩, ⟨by repeat (first | (with_reducible first | exact HB.out | apply below_alloc | apply pw_below_drewN | apply below_drew1 | refine below_set ?_ GE355.out | refine below_set ?_ GE356.out) | exact HB.out)⟩⟩
      · rw [if_neg c7] at H
        have c7b0 : (a0_1.toList == a1_1.toList) = false := beq_eq_false_iff_ne.mpr c7
        have c7b1 : (a0_1.toList != a1_1.toList) = true := bne_iff_ne.mpr c7
        have H' := Aside0.mk H
        clear H
        have hnb43 := NB355_356.out
        have hnc43 := NB356_355.out
        have hcz44_0 : w5.cell? ⟨gb355, 0, none⟩ = some (.int .i64 a0_0) := (blk_cell BK355.out 0).trans rfl
        have hcz44_1 : w5.cell? ⟨gb355, 1, none⟩ = some (.string a0_1) := (blk_cell BK355.out 1).trans rfl
        have hcz44_2 : w5.cell? ⟨gb355, 2, none⟩ = some (.string a0_2) := (blk_cell BK355.out 2).trans rfl
        have hcz44_3 : w5.cell? ⟨gb355, 3, none⟩ = some (.string a0_3) := (blk_cell BK355.out 3).trans rfl
        have hcz44_4 : w5.cell? ⟨gb355, 4, none⟩ = some (.int .i64 a0_4) := (blk_cell BK355.out 4).trans rfl
        have hcz44_5 : w5.cell? ⟨gb355, 5, none⟩ = some (.int .i64 a0_5) := (blk_cell BK355.out 5).trans rfl
        have hcz44_6 : w5.cell? ⟨gb355, 6, none⟩ = some (.int .i64 a0_6) := (blk_cell BK355.out 6).trans rfl
        have hcz44_7 : w5.cell? ⟨gb355, 7, none⟩ = some (.int .i64 a0_7) := (blk_cell BK355.out 7).trans rfl
        have hcz44_8 : w5.cell? ⟨gb355, 8, none⟩ = some (.bool a0_8) := (blk_cell BK355.out 8).trans rfl
        have hcz44_9 : w5.cell? ⟨gb355, 9, none⟩ = some (.slice A0_9 l0_9.length c0_9) := (blk_cell BK355.out 9).trans rfl
        have hcz44_10 : w5.cell? ⟨gb355, 10, none⟩ = some (.slice A0_10 l0_10.length c0_10) := (blk_cell BK355.out 10).trans rfl
        have hfz44_0 := blk_frozen BK355.out 0
        have hfz44_1 := blk_frozen BK355.out 1
        have hfz44_2 := blk_frozen BK355.out 2
        have hfz44_3 := blk_frozen BK355.out 3
        have hfz44_4 := blk_frozen BK355.out 4
        have hfz44_5 := blk_frozen BK355.out 5
        have hfz44_6 := blk_frozen BK355.out 6
        have hfz44_7 := blk_frozen BK355.out 7
        have hfz44_8 := blk_frozen BK355.out 8
        have hfz44_9 := blk_frozen BK355.out 9
        have hfz44_10 := blk_frozen BK355.out 10
        have hcz45_0 : w5.cell? ⟨gb356, 0, none⟩ = some (.int .i64 a1_0) := (blk_cell BK356.out 0).trans rfl
        have hcz45_1 : w5.cell? ⟨gb356, 1, none⟩ = some (.string a1_1) := (blk_cell BK356.out 1).trans rfl
        have hcz45_2 : w5.cell? ⟨gb356, 2, none⟩ = some (.string a1_2) := (blk_cell BK356.out 2).trans rfl
        have hcz45_3 : w5.cell? ⟨gb356, 3, none⟩ = some (.string a1_3) := (blk_cell BK356.out 3).trans rfl
        have hcz45_4 : w5.cell? ⟨gb356, 4, none⟩ = some (.int .i64 a1_4) := (blk_cell BK356.out 4).trans rfl
        have hcz45_5 : w5.cell? ⟨gb356, 5, none⟩ = some (.int .i64 a1_5) := (blk_cell BK356.out 5).trans rfl
        have hcz45_6 : w5.cell? ⟨gb356, 6, none⟩ = some (.int .i64 a1_6) := (blk_cell BK356.out 6).trans rfl
        have hcz45_7 : w5.cell? ⟨gb356, 7, none⟩ = some (.int .i64 a1_7) := (blk_cell BK356.out 7).trans rfl
        have hcz45_8 : w5.cell? ⟨gb356, 8, none⟩ = some (.bool a1_8) := (blk_cell BK356.out 8).trans rfl
        have hcz45_9 : w5.cell? ⟨gb356, 9, none⟩ = some (.slice A1_9 l1_9.length c1_9) := (blk_cell BK356.out 9).trans rfl
        have hcz45_10 : w5.cell? ⟨gb356, 10, none⟩ = some (.slice A1_10 l1_10.length c1_10) := (blk_cell BK356.out 10).trans rfl
        have hfz45_0 := blk_frozen BK356.out 0
        have hfz45_1 := blk_frozen BK356.out 1
        have hfz45_2 := blk_frozen BK356.out 2
        have hfz45_3 := blk_frozen BK356.out 3
        have hfz45_4 := blk_frozen BK356.out 4
        have hfz45_5 := blk_frozen BK356.out 5
        have hfz45_6 := blk_frozen BK356.out 6
        have hfz45_7 := blk_frozen BK356.out 7
        have hfz45_8 := blk_frozen BK356.out 8
        have hfz45_9 := blk_frozen BK356.out 9
        have hfz45_10 := blk_frozen BK356.out 10
        go_wp2
        repeat (go_quiet (fail); try go_wp2)
        go_meet
        case rel => exact ⟨_, (true), (by first | rfl | (simp; done) | (simp [*]; done)), H', ⟨by first | omega | exact Nat.le_refl _⟩, ⟨by (with_reducible repeat (first | refine blk_drewN ?_ _ | refine blk_drew ?_ | refine blk_alloc ?_ _)); exact BK355.out⟩, ⟨by (with_reducible repeat (first | refine blk_drewN ?_ _ | refine blk_drew ?_ | refine blk_alloc ?_ _)); exact BK356.out⟩, ⟨by repeat (first | (with_reducible first | exact HB.out | apply below_alloc | apply pw_below_drewN | apply below_drew1 | refine below_set ?_ GE355.out | refine below_set ?_ GE356.out) | exact HB.out)⟩⟩
    · rw [if_neg c6] at H
      have c6b0 : (a0_0 == a1_0) = false := beq_eq_false_iff_ne.mpr c6
      have c6b1 : (a0_0 != a1_0) = true := bne_iff_ne.mpr c6
      (first | rw [c6b0] | (simp only [i64_w, i32_w]; rw [c6b0]) | skip)
      have H' := Aside0.mk H
      clear H
      have hnb46 := NB355_356.out
      have hnc46 := NB356_355.out
      have hcz47_0 : w5.cell? ⟨gb355, 0, none⟩ = some (.int .i64 a0_0) := (blk_cell BK355.out 0).trans rfl
      have hcz47_1 : w5.cell? ⟨gb355, 1, none⟩ = some (.string a0_1) := (blk_cell BK355.out 1).trans rfl
      have hcz47_2 : w5.cell? ⟨gb355, 2, none⟩ = some (.string a0_2) := (blk_cell BK355.out 2).trans rfl
      have hcz47_3 : w5.cell? ⟨gb355, 3, none⟩ = some (.string a0_3) := (blk_cell BK355.out 3).trans rfl
      have hcz47_4 : w5.cell? ⟨gb355, 4, none⟩ = some (.int .i64 a0_4) := (blk_cell BK355.out 4).trans rfl
      have hcz47_5 : w5.cell? ⟨gb355, 5, none⟩ = some (.int .i64 a0_5) := (blk_cell BK355.out 5).trans rfl
      have hcz47_6 : w5.cell? ⟨gb355, 6, none⟩ = some (.int .i64 a0_6) := (blk_cell BK355.out 6).trans rfl
      have hcz47_7 : w5.cell? ⟨gb355, 7, none⟩ = some (.int .i64 a0_7) := (blk_cell BK355.out 7).trans rfl
      have hcz47_8 : w5.cell? ⟨gb355, 8, none⟩ = some (.bool a0_8) := (blk_cell BK355.out 8).trans rfl
      have hcz47_9 : w5.cell? ⟨gb355, 9, none⟩ = some (.slice A0_9 l0_9.length c0_9) := (blk_cell BK355.out 9).trans rfl
      have hcz47_10 : w5.cell? ⟨gb355, 10, none⟩ = some (.slice A0_10 l0_10.length c0_10) := (blk_cell BK355.out 10).trans rfl
      have hfz47_0 := blk_frozen BK355.out 0
      have hfz47_1 := blk_frozen BK355.out 1
      have hfz47_2 := blk_frozen BK355.out 2
      have hfz47_3 := blk_frozen BK355.out 3
      have hfz47_4 := blk_frozen BK355.out 4
      have hfz47_5 := blk_frozen BK355.out 5
      have hfz47_6 := blk_frozen BK355.out 6
      have hfz47_7 := blk_frozen BK355.out 7
      have hfz47_8 := blk_frozen BK355.out 8
      have hfz47_9 := blk_frozen BK355.out 9
      have hfz47_10 := blk_frozen BK355.out 10
      have hcz48_0 : w5.cell? ⟨gb356, 0, none⟩ = some (.int .i64 a1_0) := (blk_cell BK356.out 0).trans rfl
      have hcz48_1 : w5.cell? ⟨gb356, 1, none⟩ = some (.string a1_1) := (blk_cell BK356.out 1).trans rfl
      have hcz48_2 : w5.cell? ⟨gb356, 2, none⟩ = some (.string a1_2) := (blk_cell BK356.out 2).trans rfl
      have hcz48_3 : w5.cell? ⟨gb356, 3, none⟩ = some (.string a1_3) := (blk_cell BK356.out 3).trans rfl
      have hcz48_4 : w5.cell? ⟨gb356, 4, none⟩ = some (.int .i64 a1_4) := (blk_cell BK356.out 4).trans rfl
      have hcz48_5 : w5.cell? ⟨gb356, 5, none⟩ = some (.int .i64 a1_5) := (blk_cell BK356.out 5).trans rfl
      have hcz48_6 : w5.cell? ⟨gb356, 6, none⟩ = some (.int .i64 a1_6) := (blk_cell BK356.out 6).trans rfl
      have hcz48_7 : w5.cell? ⟨gb356, 7, none⟩ = some (.int .i64 a1_7) := (blk_cell BK356.out 7).trans rfl
      have hcz48_8 : w5.cell? ⟨gb356, 8, none⟩ = some (.bool a1_8) := (blk_cell BK356.out 8).trans rfl
      have hcz48_9 : w5.cell? ⟨gb356, 9, none⟩ = some (.slice A1_9 l1_9.length c1_9) := (blk_cell BK356.out 9).trans rfl
      have hcz48_10 : w5.cell? ⟨gb356, 10, none⟩ = some (.slice A1_10 l1_10.length c1_10) := (blk_cell BK356.out 10).trans rfl
      have hfz48_0 := blk_frozen BK356.out 0
      have hfz48_1 := blk_frozen BK356.out 1
      have hfz48_2 := blk_frozen BK356.out 2
      have hfz48_3 := blk_frozen BK356.out 3
      have hfz48_4 := blk_frozen BK356.out 4
      have hfz48_5 := blk_frozen BK356.out 5
      have hfz48_6 := blk_frozen BK356.out 6
      have hfz48_7 := blk_frozen BK356.out 7
      have hfz48_8 := blk_frozen BK356.out 8
      have hfz48_9 := blk_frozen BK356.out 9
      have hfz48_10 := blk_frozen BK356.out 10
      go_wp2
      repeat (go_quiet (fail); try go_wp2)
      go_meet
      case rel => exact ⟨_, (true), (by first | rfl | (simp; done) | (simp [*]; done)), H', ⟨by first | omega | exact Nat.le_refl _⟩, ⟨by (with_reducible repeat (first | refine blk_drewN ?_ _ | refine blk_drew ?_ | refine blk_alloc ?_ _)); exact BK355.out⟩, ⟨by (with_reducible repeat (first | refine blk_drewN ?_ _ | refine blk_drew ?_ | refine blk_alloc ?_ _)); exact BK356.out⟩, ⟨by repeat (first | (with_reducible first | exact HB.out | apply below_alloc | apply pw_below_drewN | apply below_drew1 | refine below_set ?_ GE355.out | refine below_set ?_ GE356.out) | exact HB.out)⟩⟩
  case rest =>
    clear HC3
    try clear c1
    try clear c2
    try clear p2
    try clear c3
    try clear c4
    try clear c6
    try clear c6b0
    try clear c6b1
    try clear c7
    try clear c7b0
    try clear c7b1
    try clear c8
    try clear c8b0
    try clear c8b1
    try clear c9
    try clear c9b0
    try clear c9b1
    try clear c10
    try clear c10b0
    try clear c10b1
    try clear c11
    try clear c11b0
    try clear c11b1
    try clear c12
    try clear c12b0
    try clear c12b1
    try clear c13
    try clear c13b0
    try clear c13b1
    try clear c14
    try clear c14b0
    try clear c14b1
    try clear c14b2
    try clear c18
    try clear c18b0
    try clear c18b1
    try clear c18b2
    try clear c19
    try clear c22
    try clear c25
    try clear c28
    try clear c31
    try clear c34
    try clear c37
    try clear c40
    try clear c43
    try clear c46
    try clear hcz16_10
    try clear hcz17_0
    try clear hcz17_1
    try clear hcz17_10
    try clear hcz17_2
    try clear hcz17_3
    try clear hcz17_4
    try clear hcz17_5
    try clear hcz17_6
    try clear hcz17_7
    try clear hcz17_8
    try clear hcz17_9
    try clear hcz20_0
    try clear hcz20_1
    try clear hcz20_10
    try clear hcz20_2
    try clear hcz20_3
    try clear hcz20_4
    try clear hcz20_5
    try clear hcz20_6
    try clear hcz20_7
    try clear hcz20_8
    try clear hcz20_9
    try clear hcz21_0
    try clear hcz21_1
    try clear hcz21_10
    try clear hcz21_2
    try clear hcz21_3
    try clear hcz21_4
    try clear hcz21_5
    try clear hcz21_6
    try clear hcz21_7
    try clear hcz21_8
    try clear hcz21_9
    try clear hcz23_0
    try clear hcz23_1
    try clear hcz23_10
    try clear hcz23_2
    try clear hcz23_3
    try clear hcz23_4
    try clear hcz23_5
    try clear hcz23_6
    try clear hcz23_7
    try clear hcz23_8
    try clear hcz23_9
    try clear hcz24_0
    try clear hcz24_1
    try clear hcz24_10
    try clear hcz24_2
    try clear hcz24_3
    try clear hcz24_4
    try clear hcz24_5
    try clear hcz24_6
    try clear hcz24_7
    try clear hcz24_8
    try clear hcz24_9
    try clear hcz26_0
    try clear hcz26_1
    try clear hcz26_10
    try clear hcz26_2
    try clear hcz26_3
    try clear hcz26_4
    try clear hcz26_5
    try clear hcz26_6
    try clear hcz26_7
    try clear hcz26_8
    try clear hcz26_9
    try clear hcz27_0
    try clear hcz27_1
    try clear hcz27_10
    try clear hcz27_2
    try clear hcz27_3
    try clear hcz27_4
    try clear hcz27_5
    try clear hcz27_6
    try clear hcz27_7
    try clear hcz27_8
    try clear hcz27_9
    try clear hcz29_0
    try clear hcz29_1
    try clear hcz29_10
    try clear hcz29_2
    try clear hcz29_3
    try clear hcz29_4
    try clear hcz29_5
    try clear hcz29_6
    try clear hcz29_7
    try clear hcz29_8
    try clear hcz29_9
    try clear hcz30_0
    try clear hcz30_1
    try clear hcz30_10
    try clear hcz30_2
    try clear hcz30_3
    try clear hcz30_4
    try clear hcz30_5
    try clear hcz30_6
    try clear hcz30_7
    try clear hcz30_8
    try clear hcz30_9
    try clear hcz32_0
    try clear hcz32_1
    try clear hcz32_10
    try clear hcz32_2
    try clear hcz32_3
    try clear hcz32_4
    try clear hcz32_5
    try clear hcz32_6
    try clear hcz32_7
    try clear hcz32_8
    try clear hcz32_9
    try clear hcz33_0
    try clear hcz33_1
    try clear hcz33_10
    try clear hcz33_2
    try clear hcz33_3
    try clear hcz33_4
    try clear hcz33_5
    try clear hcz33_6
    try clear hcz33_7
    try clear hcz33_8
    try clear hcz33_9
    try clear hcz35_0
    try clear hcz35_1
    try clear hcz35_10
    try clear hcz35_2
    try clear hcz35_3
    try clear hcz35_4
    try clear hcz35_5
    try clear hcz35_6
    try clear hcz35_7
    try clear hcz35_8
    try clear hcz35_9
    try clear hcz36_0
    try clear hcz36_1
    try clear hcz36_10
    try clear hcz36_2
    try clear hcz36_3
    try clear hcz36_4
    try clear hcz36_5
    try clear hcz36_6
    try clear hcz36_7
    try clear hcz36_8
    try clear hcz36_9
    try clear hcz38_0
    try clear hcz38_1
    try clear hcz38_10
    try clear hcz38_2
    try clear hcz38_3
    try clear hcz38_4
    try clear hcz38_5
    try clear hcz38_6
    try clear hcz38_7
    try clear hcz38_8
    try clear hcz38_9
    try clear hcz39_0
    try clear hcz39_1
    try clear hcz39_10
    try clear hcz39_2
    try clear hcz39_3
    try clear hcz39_4
    try clear hcz39_5
    try clear hcz39_6
    try clear hcz39_7
    try clear hcz39_8
    try clear hcz39_9
    try clear hcz41_0
    try clear hcz41_1
    try clear hcz41_10
    try clear hcz41_2
    try clear hcz41_3
    try clear hcz41_4
    try clear hcz41_5
    try clear hcz41_6
    try clear hcz41_7
    try clear hcz41_8
    try clear hcz41_9
    try clear hcz42_0
    try clear hcz42_1
    try clear hcz42_10
    try clear hcz42_2
    try clear hcz42_3
    try clear hcz42_4
    try clear hcz42_5
    try clear hcz42_6
    try clear hcz42_7
    try clear hcz42_8
    try clear hcz42_9
    try clear hcz44_0
    try clear hcz44_1
    try clear hcz44_10
    try clear hcz44_2
    try clear hcz44_3
    try clear hcz44_4
    try clear hcz44_5
    try clear hcz44_6
    try clear hcz44_7
    try clear hcz44_8
    try clear hcz44_9
    try clear hcz45_0
    try clear hcz45_1
    try clear hcz45_10
    try clear hcz45_2
    try clear hcz45_3
    try clear hcz45_4
    try clear hcz45_5
    try clear hcz45_6
    try clear hcz45_7
    try clear hcz45_8
    try clear hcz45_9
    try clear hcz47_0
    try clear hcz47_1
    try clear hcz47_10
    try clear hcz47_2
    try clear hcz47_3
    try clear hcz47_4
    try clear hcz47_5
    try clear hcz47_6
    try clear hcz47_7
    try clear hcz47_8
    try clear hcz47_9
    try clear hcz48_0
    try clear hcz48_1
    try clear hcz48_10
    try clear hcz48_2
    try clear hcz48_3
    try clear hcz48_4
    try clear hcz48_5
    try clear hcz48_6
    try clear hcz48_7
    try clear hcz48_8
    try clear hcz48_9
    try clear hfz16_0
    try clear hfz16_1
    try clear hfz16_10
    try clear hfz16_2
    try clear hfz16_3
    try clear hfz16_4
    try clear hfz16_5
    try clear hfz16_6
    try clear hfz16_7
    try clear hfz16_8
    try clear hfz16_9
    try clear hfz17_0
    try clear hfz17_1
    try clear hfz17_10
    try clear hfz17_2
    try clear hfz17_3
    try clear hfz17_4
    try clear hfz17_5
    try clear hfz17_6
    try clear hfz17_7
    try clear hfz17_8
    try clear hfz17_9
    try clear hfz20_0
    try clear hfz20_1
    try clear hfz20_10
    try clear hfz20_2
    try clear hfz20_3
    try clear hfz20_4
    try clear hfz20_5
    try clear hfz20_6
    try clear hfz20_7
    try clear hfz20_8
    try clear hfz20_9
    try clear hfz21_0
    try clear hfz21_1
    try clear hfz21_10
    try clear hfz21_2
    try clear hfz21_3
    try clear hfz21_4
    try clear hfz21_5
    try clear hfz21_6
    try clear hfz21_7
    try clear hfz21_8
    try clear hfz21_9
    try clear hfz23_0
    try clear hfz23_1
    try clear hfz23_10
    try clear hfz23_2
    try clear hfz23_3
    try clear hfz23_4
    try clear hfz23_5
    try clear hfz23_6
    try clear hfz23_7
    try clear hfz23_8
    try clear hfz23_9
    try clear hfz24_0
    try clear hfz24_1
    try clear hfz24_10
    try clear hfz24_2
    try clear hfz24_3
    try clear hfz24_4
    try clear hfz24_5
    try clear hfz24_6
    try clear hfz24_7
    try clear hfz24_8
    try clear hfz24_9
    try clear hfz26_0
    try clear hfz26_1
    try clear hfz26_10
    try clear hfz26_2
    try clear hfz26_3
    try clear hfz26_4
    try clear hfz26_5
    try clear hfz26_6
    try clear hfz26_7
    try clear hfz26_8
    try clear hfz26_9
    try clear hfz27_0
    try clear hfz27_1
    try clear hfz27_10
    try clear hfz27_2
    try clear hfz27_3
    try clear hfz27_4
    try clear hfz27_5
    try clear hfz27_6
    try clear hfz27_7
    try clear hfz27_8
    try clear hfz27_9
    try clear hfz29_0
    try clear hfz29_1
    try clear hfz29_10
    try clear hfz29_2
    try clear hfz29_3
    try clear hfz29_4
    try clear hfz29_5
    try clear hfz29_6
    try clear hfz29_7
    try clear hfz29_8
    try clear hfz29_9
    try clear hfz30_0
    try clear hfz30_1
    try clear hfz30_10
    try clear hfz30_2
    try clear hfz30_3
    try clear hfz30_4
    try clear hfz30_5
    try clear hfz30_6
    try clear hfz30_7
    try clear hfz30_8
    try clear hfz30_9
    try clear hfz32_0
    try clear hfz32_1
    try clear hfz32_10
    try clear hfz32_2
    try clear hfz32_3
    try clear hfz32_4
    try clear hfz32_5
    try clear hfz32_6
    try clear hfz32_7
    try clear hfz32_8
    try clear hfz32_9
    try clear hfz33_0
    try clear hfz33_1
    try clear hfz33_10
    try clear hfz33_2
    try clear hfz33_3
    try clear hfz33_4
    try clear hfz33_5
    try clear hfz33_6
    try clear hfz33_7
    try clear hfz33_8
    try clear hfz33_9
    try clear hfz35_0
    try clear hfz35_1
    try clear hfz35_10
    try clear hfz35_2
    try clear hfz35_3
    try clear hfz35_4
    try clear hfz35_5
    try clear hfz35_6
    try clear hfz35_7
    try clear hfz35_8
    try clear hfz35_9
    try clear hfz36_0
    try clear hfz36_1
    try clear hfz36_10
    try clear hfz36_2
    try clear hfz36_3
    try clear hfz36_4
    try clear hfz36_5
    try clear hfz36_6
    try clear hfz36_7
    try clear hfz36_8
    try clear hfz36_9
    try clear hfz38_0
    try clear hfz38_1
    try clear hfz38_10
    try clear hfz38_2
    try clear hfz38_3
    try clear hfz38_4
    try clear hfz38_5
    try clear hfz38_6
    try clear hfz38_7
    try clear hfz38_8
    try clear hfz38_9
    try clear hfz39_0
    try clear hfz39_1
    try clear hfz39_10
    try clear hfz39_2
    try clear hfz39_3
    try clear hfz39_4
    try clear hfz39_5
    try clear hfz39_6
    try clear hfz39_7
    try clear hfz39_8
    try clear hfz39_9
    try clear hfz41_0
    try clear hfz41_1
    try clear hfz41_10
    try clear hfz41_2
    try clear hfz41_3
    try clear hfz41_4
    try clear hfz41_5
    try clear hfz41_6
    try clear hfz41_7
    try clear hfz41_8
    try clear hfz41_9
    try clear hfz42_0
    try clear hfz42_1
    try clear hfz42_10
    try clear hfz42_2
    try clear hfz42_3
    try clear hfz42_4
    try clear hfz42_5
    try clear hfz42_6
    try clear hfz42_7
    try clear hfz42_8
    try clear hfz42_9
    try clear hfz44_0
    try clear hfz44_1
    try clear hfz44_10
    try clear hfz44_2
    try clear hfz44_3
    try clear hfz44_4
    try clear hfz44_5
    try clear hfz44_6
    try clear hfz44_7
    try clear hfz44_8
    try clear hfz44_9
    try clear hfz45_0
    try clear hfz45_1
    try clear hfz45_10
    try clear hfz45_2
    try clear hfz45_3
    try clear hfz45_4
    try clear hfz45_5
    try clear hfz45_6
    try clear hfz45_7
    try clear hfz45_8
    try clear hfz45_9
    try clear hfz47_0
    try clear hfz47_1
    try clear hfz47_10
    try clear hfz47_2
    try clear hfz47_3
    try clear hfz47_4
    try clear hfz47_5
    try clear hfz47_6
    try clear hfz47_7
    try clear hfz47_8
    try clear hfz47_9
    try clear hfz48_0
    try clear hfz48_1
    try clear hfz48_10
    try clear hfz48_2
    try clear hfz48_3
    try clear hfz48_4
    try clear hfz48_5
    try clear hfz48_6
    try clear hfz48_7
    try clear hfz48_8
    try clear hfz48_9
    obtain ⟨kq, x85_2, rfl, HA, HJ2, BK355, BK356, HB⟩ := hcut
    cases kq with
    | zero => exact absurd HA.out (by simp [wharfref14_Same.j0])
    | succ kj2 =>
      have H := HA.out
      clear HA
      simp only [wharfref14_Same.j0] at H
      by_cases c49 : x85_2 = true
      · subst c49
        have H1 : (some false) = some r := by rw [if_pos rfl] at H; exact H
        clear H
        have H := H1
        clear H1
        obtain rfl := Option.some.inj H
        go_wp2
        repeat (go_quiet (fail); try go_wp2)
        go_ret
        exact ⟨by first | rfl | (simp [errW_none, errW_some] <;> rfl) | (simp [*, errW_none, errW_some] <;> rfl), by repeat (first | (with_reducible first | exact HB.out | apply below_alloc | apply pw_below_drewN | apply below_drew1 | refine below_set ?_ GE355.out | refine below_set ?_ GE356.out) | exact HB.out)⟩
      · replace c49 := Bool.eq_false_iff.mpr c49
        subst c49
        have H1 : (wharfref14_Same.l0 kj2 0 a0_0 a0_1 a0_2 a0_3 a0_4 a0_5 a0_6 a0_7 a0_8 l0_9 l0_10 a1_0 a1_1 a1_2 a1_3 a1_4 a1_5 a1_6 a1_7 a1_8 l1_9 l1_10) = some r := by rw [if_neg (show ¬ (false = true) by decide)] at H; exact H
        clear H
        have H := H1
        clear H1
        have H' := Aside0.mk H
        clear H
        go_wp2
        repeat (go_quiet (fail); try go_wp2)
        go_loopg [5] kj2 (fun kq v5 w' => ∃ (x5_2 : Int), v5 = .int .i64 x5_2 ∧ Aside0 (wharfref14_Same.l0 kq x5_2 a0_0 a0_1 a0_2 a0_3 a0_4 a0_5 a0_6 a0_7 a0_8 l0_9 l0_10 a1_0 a1_1 a1_2 a1_3 a1_4 a1_5 a1_6 a1_7 a1_8 l1_9 l1_10 = some r) ∧ Aside0 (kq ≤ kj2) ∧ Aside0 (w'.heap[gb355]? = some (.cells #[.int .i64 a0_0, .string a0_1, .string a0_2, .string a0_3, .int .i64 a0_4, .int .i64 a0_5, .int .i64 a0_6, .int .i64 a0_7, .bool a0_8, (.slice A0_9 l0_9.length c0_9), (.slice A0_10 l0_10.length c0_10)] 41 (0, 0))) ∧ Aside0 (w'.heap[gb356]? = some (.cells #[.int .i64 a1_0, .string a1_1, .string a1_2, .string a1_3, .int .i64 a1_4, .int .i64 a1_5, .int .i64 a1_6, .int .i64 a1_7, .bool a1_8, (.slice A1_9 l1_9.length c1_9), (.slice A1_10 l1_10.length c1_10)] 41 (0, 0))) ∧ Aside0 (Below w.heap.size w w'))
        case atStart => exact ⟨(0), (by first | rfl | (simp; done) | (simp [*]; done)), H', ⟨Nat.le_refl _⟩, ⟨by (with_reducible repeat (first | refine blk_drewN ?_ _ | refine blk_drew ?_ | refine blk_alloc ?_ _)); exact BK355.out⟩, ⟨by (with_reducible repeat (first | refine blk_drewN ?_ _ | refine blk_drew ?_ | refine blk_alloc ?_ _)); exact BK356.out⟩, ⟨by repeat (first | (with_reducible first | exact HB.out | apply below_alloc | apply pw_below_drewN | apply below_drew1 | refine below_set ?_ GE355.out | refine below_set ?_ GE356.out) | exact HB.out)⟩⟩
        case round =>
          clear H'
          try clear c1
          try clear c2
          try clear p2
          try clear c3
          try clear c4
          try clear c6
          try clear c6b0
          try clear c6b1
          try clear c7
          try clear c7b0
          try clear c7b1
          try clear c8
          try clear c8b0
          try clear c8b1
          try clear c9
          try clear c9b0
          try clear c9b1
          try clear c10
          try clear c10b0
          try clear c10b1
          try clear c11
          try clear c11b0
          try clear c11b1
          try clear c12
          try clear c12b0
          try clear c12b1
          try clear c13
          try clear c13b0
          try clear c13b1
          try clear c14
          try clear c14b0
          try clear c14b1
          try clear c14b2
          try clear c18
          try clear c18b0
          try clear c18b1
          try clear c18b2
          try clear c19
          try clear c22
          try clear c25
          try clear c28
          try clear c31
          try clear c34
          try clear c37
          try clear c40
          try clear c43
          try clear c46
          try clear c49
          try clear hcz16_10
          try clear hcz17_0
          try clear hcz17_1
          try clear hcz17_10
          try clear hcz17_2
          try clear hcz17_3
          try clear hcz17_4
          try clear hcz17_5
          try clear hcz17_6
          try clear hcz17_7
          try clear hcz17_8
          try clear hcz17_9
          try clear hcz20_0
          try clear hcz20_1
          try clear hcz20_10
          try clear hcz20_2
          try clear hcz20_3
          try clear hcz20_4
          try clear hcz20_5
          try clear hcz20_6
          try clear hcz20_7
          try clear hcz20_8
          try clear hcz20_9
          try clear hcz21_0
          try clear hcz21_1
          try clear hcz21_10
          try clear hcz21_2
          try clear hcz21_3
          try clear hcz21_4
          try clear hcz21_5
          try clear hcz21_6
          try clear hcz21_7
          try clear hcz21_8
          try clear hcz21_9
          try clear hcz23_0
          try clear hcz23_1
          try clear hcz23_10
          try clear hcz23_2
          try clear hcz23_3
          try clear hcz23_4
          try clear hcz23_5
          try clear hcz23_6
          try clear hcz23_7
          try clear hcz23_8
          try clear hcz23_9
          try clear hcz24_0
          try clear hcz24_1
          try clear hcz24_10
          try clear hcz24_2
          try clear hcz24_3
          try clear hcz24_4
          try clear hcz24_5
          try clear hcz24_6
          try clear hcz24_7
          try clear hcz24_8
          try clear hcz24_9
          try clear hcz26_0
          try clear hcz26_1
          try clear hcz26_10
          try clear hcz26_2
          try clear hcz26_3
          try clear hcz26_4
          try clear hcz26_5
          try clear hcz26_6
          try clear hcz26_7
          try clear hcz26_8
          try clear hcz26_9
          try clear hcz27_0
          try clear hcz27_1
          try clear hcz27_10
          try clear hcz27_2
          try clear hcz27_3
          try clear hcz27_4
          try clear hcz27_5
          try clear hcz27_6
          try clear hcz27_7
          try clear hcz27_8
          try clear hcz27_9
          try clear hcz29_0
          try clear hcz29_1
          try clear hcz29_10
          try clear hcz29_2
          try clear hcz29_3
          try clear hcz29_4
          try clear hcz29_5
          try clear hcz29_6
          try clear hcz29_7
          try clear hcz29_8
          try clear hcz29_9
          try clear hcz30_0
          try clear hcz30_1
          try clear hcz30_10
          try clear hcz30_2
          try clear hcz30_3
          try clear hcz30_4
          try clear hcz30_5
          try clear hcz30_6
          try clear hcz30_7
          try clear hcz30_8
          try clear hcz30_9
          try clear hcz32_0
          try clear hcz32_1
          try clear hcz32_10
          try clear hcz32_2
          try clear hcz32_3
          try clear hcz32_4
          try clear hcz32_5
          try clear hcz32_6
          try clear hcz32_7
          try clear hcz32_8
          try clear hcz32_9
          try clear hcz33_0
          try clear hcz33_1
          try clear hcz33_10
          try clear hcz33_2
          try clear hcz33_3
          try clear hcz33_4
          try clear hcz33_5
          try clear hcz33_6
          try clear hcz33_7
          try clear hcz33_8
          try clear hcz33_9
          try clear hcz35_0
          try clear hcz35_1
          try clear hcz35_10
          try clear hcz35_2
          try clear hcz35_3
          try clear hcz35_4
          try clear hcz35_5
          try clear hcz35_6
          try clear hcz35_7
          try clear hcz35_8
          try clear hcz35_9
          try clear hcz36_0
          try clear hcz36_1
          try clear hcz36_10
          try clear hcz36_2
          try clear hcz36_3
          try clear hcz36_4
          try clear hcz36_5
          try clear hcz36_6
          try clear hcz36_7
          try clear hcz36_8
          try clear hcz36_9
          try clear hcz38_0
          try clear hcz38_1
          try clear hcz38_10
          try clear hcz38_2
          try clear hcz38_3
          try clear hcz38_4
          try clear hcz38_5
          try clear hcz38_6
          try clear hcz38_7
          try clear hcz38_8
          try clear hcz38_9
          try clear hcz39_0
          try clear hcz39_1
          try clear hcz39_10
          try clear hcz39_2
          try clear hcz39_3
          try clear hcz39_4
          try clear hcz39_5
          try clear hcz39_6
          try clear hcz39_7
          try clear hcz39_8
          try clear hcz39_9
          try clear hcz41_0
          try clear hcz41_1
          try clear hcz41_10
          try clear hcz41_2
          try clear hcz41_3
          try clear hcz41_4
          try clear hcz41_5
          try clear hcz41_6
          try clear hcz41_7
          try clear hcz41_8
          try clear hcz41_9
          try clear hcz42_0
          try clear hcz42_1
          try clear hcz42_10
          try clear hcz42_2
          try clear hcz42_3
          try clear hcz42_4
          try clear hcz42_5
          try clear hcz42_6
          try clear hcz42_7
          try clear hcz42_8
          try clear hcz42_9
          try clear hcz44_0
          try clear hcz44_1
          try clear hcz44_10
          try clear hcz44_2
          try clear hcz44_3
          try clear hcz44_4
          try clear hcz44_5
          try clear hcz44_6
          try clear hcz44_7
          try clear hcz44_8
          try clear hcz44_9
          try clear hcz45_0
          try clear hcz45_1
          try clear hcz45_10
          try clear hcz45_2
          try clear hcz45_3
          try clear hcz45_4
          try clear hcz45_5
          try clear hcz45_6
          try clear hcz45_7
          try clear hcz45_8
          try clear hcz45_9
          try clear hcz47_0
          try clear hcz47_1
          try clear hcz47_10
          try clear hcz47_2
          try clear hcz47_3
          try clear hcz47_4
          try clear hcz47_5
          try clear hcz47_6
          try clear hcz47_7
          try clear hcz47_8
          try clear hcz47_9
          try clear hcz48_0
          try clear hcz48_1
          try clear hcz48_10
          try clear hcz48_2
          try clear hcz48_3
          try clear hcz48_4
          try clear hcz48_5
          try clear hcz48_6
          try clear hcz48_7
          try clear hcz48_8
          try clear hcz48_9
          try clear hfz16_0
          try clear hfz16_1
          try clear hfz16_10
          try clear hfz16_2
          try clear hfz16_3
          try clear hfz16_4
          try clear hfz16_5
          try clear hfz16_6
          try clear hfz16_7
          try clear hfz16_8
          try clear hfz16_9
          try clear hfz17_0
          try clear hfz17_1
          try clear hfz17_10
          try clear hfz17_2
          try clear hfz17_3
          try clear hfz17_4
          try clear hfz17_5
          try clear hfz17_6
          try clear hfz17_7
          try clear hfz17_8
          try clear hfz17_9
          try clear hfz20_0
          try clear hfz20_1
          try clear hfz20_10
          try clear hfz20_2
          try clear hfz20_3
          try clear hfz20_4
          try clear hfz20_5
          try clear hfz20_6
          try clear hfz20_7
          try clear hfz20_8
          try clear hfz20_9
          try clear hfz21_0
          try clear hfz21_1
          try clear hfz21_10
          try clear hfz21_2
          try clear hfz21_3
          try clear hfz21_4
          try clear hfz21_5
          try clear hfz21_6
          try clear hfz21_7
          try clear hfz21_8
          try clear hfz21_9
          try clear hfz23_0
          try clear hfz23_1
          try clear hfz23_10
          try clear hfz23_2
          try clear hfz23_3
          try clear hfz23_4
          try clear hfz23_5
          try clear hfz23_6
          try clear hfz23_7
          try clear hfz23_8
          try clear hfz23_9
          try clear hfz24_0
          try clear hfz24_1
          try clear hfz24_10
          try clear hfz24_2
          try clear hfz24_3
          try clear hfz24_4
          try clear hfz24_5
          try clear hfz24_6
          try clear hfz24_7
          try clear hfz24_8
          try clear hfz24_9
          try clear hfz26_0
          try clear hfz26_1
          try clear hfz26_10
          try clear hfz26_2
          try clear hfz26_3
          try clear hfz26_4
          try clear hfz26_5
          try clear hfz26_6
          try clear hfz26_7
          try clear hfz26_8
          try clear hfz26_9
          try clear hfz27_0
          try clear hfz27_1
          try clear hfz27_10
          try clear hfz27_2
          try clear hfz27_3
          try clear hfz27_4
          try clear hfz27_5
          try clear hfz27_6
          try clear hfz27_7
          try clear hfz27_8
          try clear hfz27_9
          try clear hfz29_0
          try clear hfz29_1
          try clear hfz29_10
          try clear hfz29_2
          try clear hfz29_3
          try clear hfz29_4
          try clear hfz29_5
          try clear hfz29_6
          try clear hfz29_7
          try clear hfz29_8
          try clear hfz29_9
          try clear hfz30_0
          try clear hfz30_1
          try clear hfz30_10
          try clear hfz30_2
          try clear hfz30_3
          try clear hfz30_4
          try clear hfz30_5
          try clear hfz30_6
          try clear hfz30_7
          try clear hfz30_8
          try clear hfz30_9
          try clear hfz32_0
          try clear hfz32_1
          try clear hfz32_10
          try clear hfz32_2
          try clear hfz32_3
          try clear hfz32_4
          try clear hfz32_5
          try clear hfz32_6
          try clear hfz32_7
          try clear hfz32_8
          try clear hfz32_9
          try clear hfz33_0
          try clear hfz33_1
          try clear hfz33_10
          try clear hfz33_2
          try clear hfz33_3
          try clear hfz33_4
          try clear hfz33_5
          try clear hfz33_6
          try clear hfz33_7
          try clear hfz33_8
          try clear hfz33_9
          try clear hfz35_0
          try clear hfz35_1
          try clear hfz35_10
          try clear hfz35_2
          try clear hfz35_3
          try clear hfz35_4
          try clear hfz35_5
          try clear hfz35_6
          try clear hfz35_7
          try clear hfz35_8
          try clear hfz35_9
          try clear hfz36_0
          try clear hfz36_1
          try clear hfz36_10
          try clear hfz36_2
          try clear hfz36_3
          try clear hfz36_4
          try clear hfz36_5
          try clear hfz36_6
          try clear hfz36_7
          try clear hfz36_8
          try clear hfz36_9
          try clear hfz38_0
          try clear hfz38_1
          try clear hfz38_10
          try clear hfz38_2
          try clear hfz38_3
          try clear hfz38_4
          try clear hfz38_5
          try clear hfz38_6
          try clear hfz38_7
          try clear hfz38_8
          try clear hfz38_9
          try clear hfz39_0
          try clear hfz39_1
          try clear hfz39_10
          try clear hfz39_2
          try clear hfz39_3
          try clear hfz39_4
          try clear hfz39_5
          try clear hfz39_6
          try clear hfz39_7
          try clear hfz39_8
          try clear hfz39_9
          try clear hfz41_0
          try clear hfz41_1
          try clear hfz41_10
          try clear hfz41_2
          try clear hfz41_3
          try clear hfz41_4
          try clear hfz41_5
          try clear hfz41_6
          try clear hfz41_7
          try clear hfz41_8
          try clear hfz41_9
          try clear hfz42_0
          try clear hfz42_1
          try clear hfz42_10
          try clear hfz42_2
          try clear hfz42_3
          try clear hfz42_4
          try clear hfz42_5
          try clear hfz42_6
          try clear hfz42_7
          try clear hfz42_8
          try clear hfz42_9
          try clear hfz44_0
          try clear hfz44_1
          try clear hfz44_10
          try clear hfz44_2
          try clear hfz44_3
          try clear hfz44_4
          try clear hfz44_5
          try clear hfz44_6
          try clear hfz44_7
          try clear hfz44_8
          try clear hfz44_9
          try clear hfz45_0
          try clear hfz45_1
          try clear hfz45_10
          try clear hfz45_2
          try clear hfz45_3
          try clear hfz45_4
          try clear hfz45_5
          try clear hfz45_6
          try clear hfz45_7
          try clear hfz45_8
          try clear hfz45_9
          try clear hfz47_0
          try clear hfz47_1
          try clear hfz47_10
          try clear hfz47_2
          try clear hfz47_3
          try clear hfz47_4
          try clear hfz47_5
          try clear hfz47_6
          try clear hfz47_7
          try clear hfz47_8
          try clear hfz47_9
          try clear hfz48_0
          try clear hfz48_1
          try clear hfz48_10
          try clear hfz48_2
          try clear hfz48_3
          try clear hfz48_4
          try clear hfz48_5
          try clear hfz48_6
          try clear hfz48_7
          try clear hfz48_8
          try clear hfz48_9
          try clear p2
          obtain ⟨x5_2, rfl, HA, HK2, BK355, BK356, HB⟩ := hrel
          cases gk with
          | zero => exact absurd HA.out (by simp [wharfref14_Same.l0])
          | succ k2 =>
            have H := HA.out
            clear HA
            simp only [wharfref14_Same.l0] at H
            by_cases c50 : x5_2 < (l0_9.length : Int)
            · rw [if_pos c50] at H
              have c50b0 : decide (x5_2 < (l0_9.length : Int)) = true := decide_eq_true c50
              clear c50
              by_cases c51 : 0 ≤ x5_2
              · rw [if_pos c51] at H
                have c51b0 : decide (0 ≤ x5_2) = true := decide_eq_true c51
                clear c51
                by_cases c52 : x5_2 < (l1_9.length : Int)
                · rw [if_pos c52] at H
                  have c52b0 : decide (x5_2 < (l1_9.length : Int)) = true := decide_eq_true c52
                  clear c52
                  by_cases c53 : (!((((rd_T69 l0_9 x5_2).f0).toList) == (((rd_T69 l1_9 x5_2).f0).toList)) || (!(((rd_T69 l0_9 x5_2).f1) == ((rd_T69 l1_9 x5_2).f1)) || (!(((rd_T69 l0_9 x5_2).f2) == ((rd_T69 l1_9 x5_2).f2)) || (!(((rd_T69 l0_9 x5_2).f3) == ((rd_T69 l1_9 x5_2).f3)) || (!((((rd_T69 l0_9 x5_2).f4).toList) == (((rd_T69 l1_9 x5_2).f4).toList)) || (!(((rd_T69 l0_9 x5_2).f5) == ((rd_T69 l1_9 x5_2).f5)))))))) = true
                  · rw [if_pos c53] at H
                    have c53b0 : (!((((rd_T69 l0_9 x5_2).f0).toList) == (((rd_T69 l1_9 x5_2).f0).toList)) || (!(((rd_T69 l0_9 x5_2).f1) == ((rd_T69 l1_9 x5_2).f1)) || (!(((rd_T69 l0_9 x5_2).f2) == ((rd_T69 l1_9 x5_2).f2)) || (!(((rd_T69 l0_9 x5_2).f3) == ((rd_T69 l1_9 x5_2).f3)) || (!((((rd_T69 l0_9 x5_2).f4).toList) == (((rd_T69 l1_9 x5_2).f4).toList)) || (!(((rd_T69 l0_9 x5_2).f5) == ((rd_T69 l1_9 x5_2).f5)))))))) = true := c53
                    clear c53
                    obtain rfl := Option.some.inj H
                    have hnb54 := NB355_356.out
                    have hnc54 := NB356_355.out
                    have hcz55_0 : wr.cell? ⟨gb355, 0, none⟩ = some (.int .i64 a0_0) := (blk_cell BK355.out 0).trans rfl
                    have hcz55_1 : wr.cell? ⟨gb355, 1, none⟩ = some (.string a0_1) := (blk_cell BK355.out 1).trans rfl
                    have hcz55_2 : wr.cell? ⟨gb355, 2, none⟩ = some (.string a0_2) := (blk_cell BK355.out 2).trans rfl
                    have hcz55_3 : wr.cell? ⟨gb355, 3, none⟩ = some (.string a0_3) := (blk_cell BK355.out 3).trans rfl
                    have hcz55_4 : wr.cell? ⟨gb355, 4, none⟩ = some (.int .i64 a0_4) := (blk_cell BK355.out 4).trans rfl
                    have hcz55_5 : wr.cell? ⟨gb355, 5, none⟩ = some (.int .i64 a0_5) := (blk_cell BK355.out 5).trans rfl
                    have hcz55_6 : wr.cell? ⟨gb355, 6, none⟩ = some (.int .i64 a0_6) := (blk_cell BK355.out 6).trans rfl
                    have hcz55_7 : wr.cell? ⟨gb355, 7, none⟩ = some (.int .i64 a0_7) := (blk_cell BK355.out 7).trans rfl
                    have hcz55_8 : wr.cell? ⟨gb355, 8, none⟩ = some (.bool a0_8) := (blk_cell BK355.out 8).trans rfl
                    have hcz55_9 : wr.cell? ⟨gb355, 9, none⟩ = some (.slice A0_9 l0_9.length c0_9) := (blk_cell BK355.out 9).trans rfl
                    have hcz55_10 : wr.cell? ⟨gb355, 10, none⟩ = some (.slice A0_10 l0_10.length c0_10) := (blk_cell BK355.out 10).trans rfl
                    have hfz55_0 := blk_frozen BK355.out 0
                    have hfz55_1 := blk_frozen BK355.out 1
                    have hfz55_2 := blk_frozen BK355.out 2
                    have hfz55_3 := blk_frozen BK355.out 3
                    have hfz55_4 := blk_frozen BK355.out 4
                    have hfz55_5 := blk_frozen BK355.out 5
                    have hfz55_6 := blk_frozen BK355.out 6
                    have hfz55_7 := blk_frozen BK355.out 7
                    have hfz55_8 := blk_frozen BK355.out 8
                    have hfz55_9 := blk_frozen BK355.out 9
                    have hfz55_10 := blk_frozen BK355.out 10
                    have p357 : 0 ≤ (x5_2 : Int) := of_decide_eq_true (by first | (with_reducible assumption) | assumption)
                    have q357 : x5_2 < (l0_9.length : Int) := of_decide_eq_true (by first | (with_reducible assumption) | assumption)
                    obtain ⟨ad357, e357, hx357_0, hx357_1, hx357_2, hx357_3, hx357_4, hx357_5⟩ := at_T69 HR0_9.out x5_2 p357 q357
                    cases e357
                    replace hx357_0 := (HB.out.cell (World.block_lt_of_cell? w _ hx357_0)).trans hx357_0
                    replace hx357_1 := (HB.out.cell (World.block_lt_of_cell? w _ hx357_1)).trans hx357_1
                    replace hx357_2 := (HB.out.cell (World.block_lt_of_cell? w _ hx357_2)).trans hx357_2
                    replace hx357_3 := (HB.out.cell (World.block_lt_of_cell? w _ hx357_3)).trans hx357_3
                    replace hx357_4 := (HB.out.cell (World.block_lt_of_cell? w _ hx357_4)).trans hx357_4
                    replace hx357_5 := (HB.out.cell (World.block_lt_of_cell? w _ hx357_5)).trans hx357_5
                    replace p357 := eq_true p357
                    replace q357 := eq_true q357
                    have hcz56_0 : wr.cell? ⟨gb356, 0, none⟩ = some (.int .i64 a1_0) := (blk_cell BK356.out 0).trans rfl
                    have hcz56_1 : wr.cell? ⟨gb356, 1, none⟩ = some (.string a1_1) := (blk_cell BK356.out 1).trans rfl
                    have hcz56_2 : wr.cell? ⟨gb356, 2, none⟩ = some (.string a1_2) := (blk_cell BK356.out 2).trans rfl
                    have hcz56_3 : wr.cell? ⟨gb356, 3, none⟩ = some (.string a1_3) := (blk_cell BK356.out 3).trans rfl
                    have hcz56_4 : wr.cell? ⟨gb356, 4, none⟩ = some (.int .i64 a1_4) := (blk_cell BK356.out 4).trans rfl
                    have hcz56_5 : wr.cell? ⟨gb356, 5, none⟩ = some (.int .i64 a1_5) := (blk_cell BK356.out 5).trans rfl
                    have hcz56_6 : wr.cell? ⟨gb356, 6, none⟩ = some (.int .i64 a1_6) := (blk_cell BK356.out 6).trans rfl
                    have hcz56_7 : wr.cell? ⟨gb356, 7, none⟩ = some (.int .i64 a1_7) := (blk_cell BK356.out 7).trans rfl
                    have hcz56_8 : wr.cell? ⟨gb356, 8, none⟩ = some (.bool a1_8) := (blk_cell BK356.out 8).trans rfl
                    have hcz56_9 : wr.cell? ⟨gb356, 9, none⟩ = some (.slice A1_9 l1_9.length c1_9) := (blk_cell BK356.out 9).trans rfl
                    have hcz56_10 : wr.cell? ⟨gb356, 10, none⟩ = some (.slice A1_10 l1_10.length c1_10) := (blk_cell BK356.out 10).trans rfl
                    have hfz56_0 := blk_frozen BK356.out 0
                    have hfz56_1 := blk_frozen BK356.out 1
                    have hfz56_2 := blk_frozen BK356.out 2
                    have hfz56_3 := blk_frozen BK356.out 3
                    have hfz56_4 := blk_frozen BK356.out 4
                    have hfz56_5 := blk_frozen BK356.out 5
                    have hfz56_6 := blk_frozen BK356.out 6
                    have hfz56_7 := blk_frozen BK356.out 7
                    have hfz56_8 := blk_frozen BK356.out 8
                    have hfz56_9 := blk_frozen BK356.out 9
                    have hfz56_10 := blk_frozen BK356.out 10
                    have p358 : 0 ≤ (x5_2 : Int) := of_decide_eq_true (by first | (with_reducible assumption) | assumption)
                    have q358 : x5_2 < (l1_9.length : Int) := of_decide_eq_true (by first | (with_reducible assumption) | assumption)
                    obtain ⟨ad358, e358, hx358_0, hx358_1, hx358_2, hx358_3, hx358_4, hx358_5⟩ := at_T69 HR1_9.out x5_2 p358 q358
                    cases e358
                    replace hx358_0 := (HB.out.cell (World.block_lt_of_cell? w _ hx358_0)).trans hx358_0
                    replace hx358_1 := (HB.out.cell (World.block_lt_of_cell? w _ hx358_1)).trans hx358_1
                    replace hx358_2 := (HB.out.cell (World.block_lt_of_cell? w _ hx358_2)).trans hx358_2
                    replace hx358_3 := (HB.out.cell (World.block_lt_of_cell? w _ hx358_3)).trans hx358_3
                    replace hx358_4 := (HB.out.cell (World.block_lt_of_cell? w _ hx358_4)).trans hx358_4
                    replace hx358_5 := (HB.out.cell (World.block_lt_of_cell? w _ hx358_5)).trans hx358_5
                    replace p358 := eq_true p358
                    replace q358 := eq_true q358
                    go_wp2
                    repeat (go_quiet (fail); try go_wp2)
                    go_ret
                    exact ⟨by first | rfl | (simp [errW_none, errW_some] <;> rfl) | (simp [*, errW_none, errW_some] <;> rfl), by repeat (first | (with_reducible first | exact HB.out | apply below_alloc | apply pw_below_drewN | apply below_drew1 | refine below_set ?_ GE355.out | refine below_set ?_ GE356.out) | exact HB.out)⟩
                  · rw [if_neg c53] at H
                    have c53b0 : (!((((rd_T69 l0_9 x5_2).f0).toList) == (((rd_T69 l1_9 x5_2).f0).toList)) || (!(((rd_T69 l0_9 x5_2).f1) == ((rd_T69 l1_9 x5_2).f1)) || (!(((rd_T69 l0_9 x5_2).f2) == ((rd_T69 l1_9 x5_2).f2)) || (!(((rd_T69 l0_9 x5_2).f3) == ((rd_T69 l1_9 x5_2).f3)) || (!((((rd_T69 l0_9 x5_2).f4).toList) == (((rd_T69 l1_9 x5_2).f4).toList)) || (!(((rd_T69 l0_9 x5_2).f5) == ((rd_T69 l1_9 x5_2).f5)))))))) = false := by simpa using c53
                    clear c53
                    have H' := Aside0.mk H
                    clear H
                    have hnb57 := NB355_356.out
                    have hnc57 := NB356_355.out
                    have hcz58_0 : wr.cell? ⟨gb355, 0, none⟩ = some (.int .i64 a0_0) := (blk_cell BK355.out 0).trans rfl
                    have hcz58_1 : wr.cell? ⟨gb355, 1, none⟩ = some (.string a0_1) := (blk_cell BK355.out 1).trans rfl
                    have hcz58_2 : wr.cell? ⟨gb355, 2, none⟩ = some (.string a0_2) := (blk_cell BK355.out 2).trans rfl
                    have hcz58_3 : wr.cell? ⟨gb355, 3, none⟩ = some (.string a0_3) := (blk_cell BK355.out 3).trans rfl
                    have hcz58_4 : wr.cell? ⟨gb355, 4, none⟩ = some (.int .i64 a0_4) := (blk_cell BK355.out 4).trans rfl
                    have hcz58_5 : wr.cell? ⟨gb355, 5, none⟩ = some (.int .i64 a0_5) := (blk_cell BK355.out 5).trans rfl
                    have hcz58_6 : wr.cell? ⟨gb355, 6, none⟩ = some (.int .i64 a0_6) := (blk_cell BK355.out 6).trans rfl
                    have hcz58_7 : wr.cell? ⟨gb355, 7, none⟩ = some (.int .i64 a0_7) := (blk_cell BK355.out 7).trans rfl
                    have hcz58_8 : wr.cell? ⟨gb355, 8, none⟩ = some (.bool a0_8) := (blk_cell BK355.out 8).trans rfl
                    have hcz58_9 : wr.cell? ⟨gb355, 9, none⟩ = some (.slice A0_9 l0_9.length c0_9) := (blk_cell BK355.out 9).trans rfl
                    have hcz58_10 : wr.cell? ⟨gb355, 10, none⟩ = some (.slice A0_10 l0_10.length c0_10) := (blk_cell BK355.out 10).trans rfl
                    have hfz58_0 := blk_frozen BK355.out 0
                    have hfz58_1 := blk_frozen BK355.out 1
                    have hfz58_2 := blk_frozen BK355.out 2
                    have hfz58_3 := blk_frozen BK355.out 3
                    have hfz58_4 := blk_frozen BK355.out 4
                    have hfz58_5 := blk_frozen BK355.out 5
                    have hfz58_6 := blk_frozen BK355.out 6
                    have hfz58_7 := blk_frozen BK355.out 7
                    have hfz58_8 := blk_frozen BK355.out 8
                    have hfz58_9 := blk_frozen BK355.out 9
                    have hfz58_10 := blk_frozen BK355.out 10
                    have p357 : 0 ≤ (x5_2 : Int) := of_decide_eq_true (by first | (with_reducible assumption) | assumption)
                    have q357 : x5_2 < (l0_9.length : Int) := of_decide_eq_true (by first | (with_reducible assumption) | assumption)
                    obtain ⟨ad357, e357, hx357_0, hx357_1, hx357_2, hx357_3, hx357_4, hx357_5⟩ := at_T69 HR0_9.out x5_2 p357 q357
                    cases e357
                    replace hx357_0 := (HB.out.cell (World.block_lt_of_cell? w _ hx357_0)).trans hx357_0
                    replace hx357_1 := (HB.out.cell (World.block_lt_of_cell? w _ hx357_1)).trans hx357_1
                    replace hx357_2 := (HB.out.cell (World.block_lt_of_cell? w _ hx357_2)).trans hx357_2
                    replace hx357_3 := (HB.out.cell (World.block_lt_of_cell? w _ hx357_3)).trans hx357_3
                    replace hx357_4 := (HB.out.cell (World.block_lt_of_cell? w _ hx357_4)).trans hx357_4
                    replace hx357_5 := (HB.out.cell (World.block_lt_of_cell? w _ hx357_5)).trans hx357_5
                    replace p357 := eq_true p357
                    replace q357 := eq_true q357
                    have hcz59_0 : wr.cell? ⟨gb356, 0, none⟩ = some (.int .i64 a1_0) := (blk_cell BK356.out 0).trans rfl
                    have hcz59_1 : wr.cell? ⟨gb356, 1, none⟩ = some (.string a1_1) := (blk_cell BK356.out 1).trans rfl
                    have hcz59_2 : wr.cell? ⟨gb356, 2, none⟩ = some (.string a1_2) := (blk_cell BK356.out 2).trans rfl
                    have hcz59_3 : wr.cell? ⟨gb356, 3, none⟩ = some (.string a1_3) := (blk_cell BK356.out 3).trans rfl
                    have hcz59_4 : wr.cell? ⟨gb356, 4, none⟩ = some (.int .i64 a1_4) := (blk_cell BK356.out 4).trans rfl
                    have hcz59_5 : wr.cell? ⟨gb356, 5, none⟩ = some (.int .i64 a1_5) := (blk_cell BK356.out 5).trans rfl
                    have hcz59_6 : wr.cell? ⟨gb356, 6, none⟩ = some (.int .i64 a1_6) := (blk_cell BK356.out 6).trans rfl
                    have hcz59_7 : wr.cell? ⟨gb356, 7, none⟩ = some (.int .i64 a1_7) := (blk_cell BK356.out 7).trans rfl
                    have hcz59_8 : wr.cell? ⟨gb356, 8, none⟩ = some (.bool a1_8) := (blk_cell BK356.out 8).trans rfl
                    have hcz59_9 : wr.cell? ⟨gb356, 9, none⟩ = some (.slice A1_9 l1_9.length c1_9) := (blk_cell BK356.out 9).trans rfl
                    have hcz59_10 : wr.cell? ⟨gb356, 10, none⟩ = some (.slice A1_10 l1_10.length c1_10) := (blk_cell BK356.out 10).trans rfl
                    have hfz59_0 := blk_frozen BK356.out 0
                    have hfz59_1 := blk_frozen BK356.out 1
                    have hfz59_2 := blk_frozen BK356.out 2
                    have hfz59_3 := blk_frozen BK356.out 3
                    have hfz59_4 := blk_frozen BK356.out 4
                    have hfz59_5 := blk_frozen BK356.out 5
                    have hfz59_6 := blk_frozen BK356.out 6
                    have hfz59_7 := blk_frozen BK356.out 7
                    have hfz59_8 := blk_frozen BK356.out 8
                    have hfz59_9 := blk_frozen BK356.out 9
                    have hfz59_10 := blk_frozen BK356.out 10
                    have p358 : 0 ≤ (x5_2 : Int) := of_decide_eq_true (by first | (with_reducible assumption) | assumption)
                    have q358 : x5_2 < (l1_9.length : Int) := of_decide_eq_true (by first | (with_reducible assumption) | assumption)
                    obtain ⟨ad358, e358, hx358_0, hx358_1, hx358_2, hx358_3, hx358_4, hx358_5⟩ := at_T69 HR1_9.out x5_2 p358 q358
                    cases e358
                    replace hx358_0 := (HB.out.cell (World.block_lt_of_cell? w _ hx358_0)).trans hx358_0
                    replace hx358_1 := (HB.out.cell (World.block_lt_of_cell? w _ hx358_1)).trans hx358_1
                    replace hx358_2 := (HB.out.cell (World.block_lt_of_cell? w _ hx358_2)).trans hx358_2
                    replace hx358_3 := (HB.out.cell (World.block_lt_of_cell? w _ hx358_3)).trans hx358_3
                    replace hx358_4 := (HB.out.cell (World.block_lt_of_cell? w _ hx358_4)).trans hx358_4
                    replace hx358_5 := (HB.out.cell (World.block_lt_of_cell? w _ hx358_5)).trans hx358_5
                    replace p358 := eq_true p358
                    replace q358 := eq_true q358
                    go_wp2
                    repeat (go_quiet (fail); try go_wp2)
                    go_roundg k2
                    case measure => have := HJ2.out; have := HK2.out; omega
                    case rel => exact ⟨(wrap64 (x5_2 + 1)), (by first | rfl | (simp; done) | (simp [*]; done)), H', ⟨by have := HJ2.out; have := HK2.out; omega⟩, ⟨by (with_reducible repeat (first | refine blk_drewN ?_ _ | refine blk_drew ?_ | refine blk_alloc ?_ _)); exact BK355.out⟩, ⟨by (with_reducible repeat (first | refine blk_drewN ?_ _ | refine blk_drew ?_ | refine blk_alloc ?_ _)); exact BK356.out⟩, ⟨by repeat (first | (with_reducible first | exact HB.out | apply below_alloc | apply pw_below_drewN | apply below_drew1 | refine below_set ?_ GE355.out | refine below_set ?_ GE356.out) | exact HB.out)⟩⟩
                · rw [if_neg c52] at H
                  exact absurd H (by simp)
              · rw [if_neg c51] at H
                exact absurd H (by simp)
            · rw [if_neg c50] at H
              have c50b0 : decide (x5_2 < (l0_9.length : Int)) = false := decide_eq_false c50
              clear c50
              have H' := Aside0.mk H
              clear H
              have hnb60 := NB355_356.out
              have hnc60 := NB356_355.out
              have hcz61_0 : wr.cell? ⟨gb355, 0, none⟩ = some (.int .i64 a0_0) := (blk_cell BK355.out 0).trans rfl
              have hcz61_1 : wr.cell? ⟨gb355, 1, none⟩ = some (.string a0_1) := (blk_cell BK355.out 1).trans rfl
              have hcz61_2 : wr.cell? ⟨gb355, 2, none⟩ = some (.string a0_2) := (blk_cell BK355.out 2).trans rfl
              have hcz61_3 : wr.cell? ⟨gb355, 3, none⟩ = some (.string a0_3) := (blk_cell BK355.out 3).trans rfl
              have hcz61_4 : wr.cell? ⟨gb355, 4, none⟩ = some (.int .i64 a0_4) := (blk_cell BK355.out 4).trans rfl
              have hcz61_5 : wr.cell? ⟨gb355, 5, none⟩ = some (.int .i64 a0_5) := (blk_cell BK355.out 5).trans rfl
              have hcz61_6 : wr.cell? ⟨gb355, 6, none⟩ = some (.int .i64 a0_6) := (blk_cell BK355.out 6).trans rfl
              have hcz61_7 : wr.cell? ⟨gb355, 7, none⟩ = some (.int .i64 a0_7) := (blk_cell BK355.out 7).trans rfl
              have hcz61_8 : wr.cell? ⟨gb355, 8, none⟩ = some (.bool a0_8) := (blk_cell BK355.out 8).trans rfl
              have hcz61_9 : wr.cell? ⟨gb355, 9, none⟩ = some (.slice A0_9 l0_9.length c0_9) := (blk_cell BK355.out 9).trans rfl
              have hcz61_10 : wr.cell? ⟨gb355, 10, none⟩ = some (.slice A0_10 l0_10.length c0_10) := (blk_cell BK355.out 10).trans rfl
              have hfz61_0 := blk_frozen BK355.out 0
              have hfz61_1 := blk_frozen BK355.out 1
              have hfz61_2 := blk_frozen BK355.out 2
              have hfz61_3 := blk_frozen BK355.out 3
              have hfz61_4 := blk_frozen BK355.out 4
              have hfz61_5 := blk_frozen BK355.out 5
              have hfz61_6 := blk_frozen BK355.out 6
              have hfz61_7 := blk_frozen BK355.out 7
              have hfz61_8 := blk_frozen BK355.out 8
              have hfz61_9 := blk_frozen BK355.out 9
              have hfz61_10 := blk_frozen BK355.out 10
              go_wp2
              repeat (go_quiet (fail); try go_wp2)
              go_loopg [6] k2 (fun kq v6 w' => ∃ (x6_3 : Int), v6 = .int .i64 x6_3 ∧ Aside0 (wharfref14_Same.l1 kq x6_3 a0_0 a0_1 a0_2 a0_3 a0_4 a0_5 a0_6 a0_7 a0_8 l0_9 l0_10 a1_0 a1_1 a1_2 a1_3 a1_4 a1_5 a1_6 a1_7 a1_8 l1_9 l1_10 = some r) ∧ Aside0 (kq ≤ k2) ∧ Aside0 (w'.heap[gb355]? = some (.cells #[.int .i64 a0_0, .string a0_1, .string a0_2, .string a0_3, .int .i64 a0_4, .int .i64 a0_5, .int .i64 a0_6, .int .i64 a0_7, .bool a0_8, (.slice A0_9 l0_9.length c0_9), (.slice A0_10 l0_10.length c0_10)] 41 (0, 0))) ∧ Aside0 (w'.heap[gb356]? = some (.cells #[.int .i64 a1_0, .string a1_1, .string a1_2, .string a1_3, .int .i64 a1_4, .int .i64 a1_5, .int .i64 a1_6, .int .i64 a1_7, .bool a1_8, (.slice A1_9 l1_9.length c1_9), (.slice A1_10 l1_10.length c1_10)] 41 (0, 0))) ∧ Aside0 (Below w.heap.size w w'))
              case atStart => exact ⟨(0), (by first | rfl | (simp; done) | (simp [*]; done)), H', ⟨Nat.le_refl _⟩, ⟨by (with_reducible repeat (first | refine blk_drewN ?_ _ | refine blk_drew ?_ | refine blk_alloc ?_ _)); exact BK355.out⟩, ⟨by (with_reducible repeat (first | refine blk_drewN ?_ _ | refine blk_drew ?_ | refine blk_alloc ?_ _)); exact BK356.out⟩, ⟨by repeat (first | (with_reducible first | exact HB.out | apply below_alloc | apply pw_below_drewN | apply below_drew1 | refine below_set ?_ GE355.out | refine below_set ?_ GE356.out) | exact HB.out)⟩⟩
              case round =>
                clear H'
                try clear c1
                try clear p2
                try clear p3
                try clear q3
                try clear hx3
                try clear c5
                try clear c6
                try clear p6
                try clear p35
                try clear q35
                try clear hx35
                try clear c50
                try clear c50b0
                try clear c51
                try clear c51b0
                try clear c52
                try clear c52b0
                try clear c53
                try clear c53b0
                try clear c54
                try clear c57
                try clear c60
                try clear hcz30_2
                try clear hcz30_3
                try clear hcz30_4
                try clear hcz30_5
                try clear hcz30_6
                try clear hcz30_7
                try clear hcz30_8
                try clear hcz30_9
                try clear hcz32_0
                try clear hcz32_1
                try clear hcz32_10
                try clear hcz32_2
                try clear hcz32_3
                try clear hcz32_4
                try clear hcz32_5
                try clear hcz32_6
                try clear hcz32_7
                try clear hcz32_8
                try clear hcz32_9
                try clear hcz33_0
                try clear hcz33_1
                try clear hcz33_10
                try clear hcz33_2
                try clear hcz33_3
                try clear hcz33_4
                try clear hcz33_5
                try clear hcz33_6
                try clear hcz33_7
                try clear hcz33_8
                try clear hcz33_9
                try clear hcz35_0
                try clear hcz35_1
                try clear hcz35_10
                try clear hcz35_2
                try clear hcz35_3
                try clear hcz35_4
                try clear hcz35_5
                try clear hcz35_6
                try clear hcz35_7
                try clear hcz35_8
                try clear hcz35_9
                try clear hcz36_0
                try clear hcz36_1
                try clear hcz36_10
                try clear hcz36_2
                try clear hcz36_3
                try clear hcz36_4
                try clear hcz36_5
                try clear hcz36_6
                try clear hcz36_7
                try clear hcz36_8
                try clear hcz36_9
                try clear hcz38_0
                try clear hcz38_1
                try clear hcz38_10
                try clear hcz38_2
                try clear hcz38_3
                try clear hcz38_4
                try clear hcz38_5
                try clear hcz38_6
                try clear hcz38_7
                try clear hcz38_8
                try clear hcz38_9
                try clear hcz39_0
                try clear hcz39_1
                try clear hcz39_10
                try clear hcz39_2
                try clear hcz39_3
                try clear hcz39_4
                try clear hcz39_5
                try clear hcz39_6
                try clear hcz39_7
                try clear hcz39_8
                try clear hcz39_9
                try clear hcz41_0
                try clear hcz41_1
                try clear hcz41_10
                try clear hcz41_2
                try clear hcz41_3
                try clear hcz41_4
                try clear hcz41_5
                try clear hcz41_6
                try clear hcz41_7
                try clear hcz41_8
                try clear hcz41_9
                try clear hcz42_0
                try clear hcz42_1
                try clear hcz42_10
                try clear hcz42_2
                try clear hcz42_3
                try clear hcz42_4
                try clear hcz42_5
                try clear hcz42_6
                try clear hcz42_7
                try clear hcz42_8
                try clear hcz42_9
                try clear hcz44_0
                try clear hcz44_1
                try clear hcz44_10
                try clear hcz44_2
                try clear hcz44_3
                try clear hcz44_4
                try clear hcz44_5
                try clear hcz44_6
                try clear hcz44_7
                try clear hcz44_8
                try clear hcz44_9
                try clear hcz45_0
                try clear hcz45_1
                try clear hcz45_10
                try clear hcz45_2
                try clear hcz45_3
                try clear hcz45_4
                try clear hcz45_5
                try clear hcz45_6
                try clear hcz45_7
                try clear hcz45_8
                try clear hcz45_9
                try clear hcz47_0
                try clear hcz47_1
                try clear hcz47_10
                try clear hcz47_2
                try clear hcz47_3
                try clear hcz47_4
                try clear hcz47_5
                try clear hcz47_6
                try clear hcz47_7
                try clear hcz47_8
                try clear hcz47_9
                try clear hcz48_0
                try clear hcz48_1
                try clear hcz48_10
                try clear hcz48_2
                try clear hcz48_3
                try clear hcz48_4
                try clear hcz48_5
                try clear hcz48_6
                try clear hcz48_7
                try clear hcz48_8
                try clear hcz48_9
                try clear hcz55_0
                try clear hcz55_1
                try clear hcz55_10
                try clear hcz55_2
                try clear hcz55_3
                try clear hcz55_4
                try clear hcz55_5
                try clear hcz55_6
                try clear hcz55_7
                try clear hcz55_8
                try clear hcz55_9
                try clear hcz56_0
                try clear hcz56_1
                try clear hcz56_10
                try clear hcz56_2
                try clear hcz56_3
                try clear hcz56_4
                try clear hcz56_5
                try clear hcz56_6
                try clear hcz56_7
                try clear hcz56_8
                try clear hcz56_9
                try clear hcz58_0
                try clear hcz58_1
                try clear hcz58_10
                try clear hcz58_2
                try clear hcz58_3
                try clear hcz58_4
                try clear hcz58_5
                try clear hcz58_6
                try clear hcz58_7
                try clear hcz58_8
                try clear hcz58_9
                try clear hcz59_0
                try clear hcz59_1
                try clear hcz59_10
                try clear hcz59_2
                try clear hcz59_3
                try clear hcz59_4
                try clear hcz59_5
                try clear hcz59_6
                try clear hcz59_7
                try clear hcz59_8
                try clear hcz59_9
                try clear hcz61_0
                try clear hcz61_1
                try clear hcz61_10
                try clear hcz61_2
                try clear hcz61_3
                try clear hcz61_4
                try clear hcz61_5
                try clear hcz61_6
                try clear hcz61_7
                try clear hcz61_8
                try clear hcz61_9
                try clear hfz16_0
                try clear hfz16_1
                try clear hfz16_10
                try clear hfz16_2
                try clear hfz16_3
                try clear hfz16_4
                try clear hfz16_5
                try clear hfz16_6
                try clear hfz16_7
                try clear hfz16_8
                try clear hfz16_9
                try clear hfz17_0
                try clear hfz17_1
                try clear hfz17_10
                try clear hfz17_2
                try clear hfz17_3
                try clear hfz17_4
                try clear hfz17_5
                try clear hfz17_6
                try clear hfz17_7
                try clear hfz17_8
                try clear hfz17_9
                try clear hfz20_0
                try clear hfz20_1
                try clear hfz20_10
                try clear hfz20_2
                try clear hfz20_3
                try clear hfz20_4
                try clear hfz20_5
                try clear hfz20_6
                try clear hfz20_7
                try clear hfz20_8
                try clear hfz20_9
                try clear hfz21_0
                try clear hfz21_1
                try clear hfz21_10
                try clear hfz21_2
                try clear hfz21_3
                try clear hfz21_4
                try clear hfz21_5
                try clear hfz21_6
                try clear hfz21_7
                try clear hfz21_8
                try clear hfz21_9
                try clear hfz23_0
                try clear hfz23_1
                try clear hfz23_10
                try clear hfz23_2
                try clear hfz23_3
                try clear hfz23_4
                try clear hfz23_5
                try clear hfz23_6
                try clear hfz23_7
                try clear hfz23_8
                try clear hfz23_9
                try clear hfz24_0
                try clear hfz24_1
                try clear hfz24_10
                try clear hfz24_2
                try clear hfz24_3
                try clear hfz24_4
                try clear hfz24_5
                try clear hfz24_6
                try clear hfz24_7
                try clear hfz24_8
                try clear hfz24_9
                try clear hfz26_0
                try clear hfz26_1
                try clear hfz26_10
                try clear hfz26_2
                try clear hfz26_3
                try clear hfz26_4
                try clear hfz26_5
                try clear hfz26_6
                try clear hfz26_7
                try clear hfz26_8
                try clear hfz26_9
                try clear hfz27_0
                try clear hfz27_1
                try clear hfz27_10
                try clear hfz27_2
                try clear hfz27_3
                try clear hfz27_4
                try clear hfz27_5
                try clear hfz27_6
                try clear hfz27_7
                try clear hfz27_8
                try clear hfz27_9
                try clear hfz29_0
                try clear hfz29_1
                try clear hfz29_10
                try clear hfz29_2
                try clear hfz29_3
                try clear hfz29_4
                try clear hfz29_5
                try clear hfz29_6
                try clear hfz29_7
                try clear hfz29_8
                try clear hfz29_9
                try clear hfz30_0
                try clear hfz30_1
                try clear hfz30_10
                try clear hfz30_2
                try clear hfz30_3
                try clear hfz30_4
                try clear hfz30_5
                try clear hfz30_6
                try clear hfz30_7
                try clear hfz30_8
                try clear hfz30_9
                try clear hfz32_0
                try clear hfz32_1
                try clear hfz32_10
                try clear hfz32_2
                try clear hfz32_3
                try clear hfz32_4
                try clear hfz32_5
                try clear hfz32_6
                try clear hfz32_7
                try clear hfz32_8
                try clear hfz32_9
                try clear hfz33_0
                try clear hfz33_1
                try clear hfz33_10
                try clear hfz33_2
                try clear hfz33_3
                try clear hfz33_4
                try clear hfz33_5
                try clear hfz33_6
                try clear hfz33_7
                try clear hfz33_8
                try clear hfz33_9
                try clear hfz35_0
                try clear hfz35_1
                try clear hfz35_10
                try clear hfz35_2
                try clear hfz35_3
                try clear hfz35_4
                try clear hfz35_5
                try clear hfz35_6
                try clear hfz35_7
                try clear hfz35_8
                try clear hfz35_9
                try clear hfz36_0
                try clear hfz36_1
                try clear hfz36_10
                try clear hfz36_2
                try clear hfz36_3
                try clear hfz36_4
                try clear hfz36_5
                try clear hfz36_6
                try clear hfz36_7
                try clear hfz36_8
                try clear hfz36_9
                try clear hfz38_0
                try clear hfz38_1
                try clear hfz38_10
                try clear hfz38_2
                try clear hfz38_3
                try clear hfz38_4
                try clear hfz38_5
                try clear hfz38_6
                try clear hfz38_7
                try clear hfz38_8
                try clear hfz38_9
                try clear hfz39_0
                try clear hfz39_1
                try clear hfz39_10
                try clear hfz39_2
                try clear hfz39_3
                try clear hfz39_4
                try clear hfz39_5
                try clear hfz39_6
                try clear hfz39_7
                try clear hfz39_8
                try clear hfz39_9
                try clear hfz41_0
                try clear hfz41_1
                try clear hfz41_10
                try clear hfz41_2
                try clear hfz41_3
                try clear hfz41_4
                try clear hfz41_5
                try clear hfz41_6
                try clear hfz41_7
                try clear hfz41_8
                try clear hfz41_9
                try clear hfz42_0
                try clear hfz42_1
                try clear hfz42_10
                try clear hfz42_2
                try clear hfz42_3
                try clear hfz42_4
                try clear hfz42_5
                try clear hfz42_6
                try clear hfz42_7
                try clear hfz42_8
                try clear hfz42_9
                try clear hfz44_0
                try clear hfz44_1
                try clear hfz44_10
                try clear hfz44_2
                try clear hfz44_3
                try clear hfz44_4
                try clear hfz44_5
                try clear hfz44_6
                try clear hfz44_7
                try clear hfz44_8
                try clear hfz44_9
                try clear hfz45_0
                try clear hfz45_1
                try clear hfz45_10
                try clear hfz45_2
                try clear hfz45_3
                try clear hfz45_4
                try clear hfz45_5
                try clear hfz45_6
                try clear hfz45_7
                try clear hfz45_8
                try clear hfz45_9
                try clear hfz47_0
                try clear hfz47_1
                try clear hfz47_10
                try clear hfz47_2
                try clear hfz47_3
                try clear hfz47_4
                try clear hfz47_5
                try clear hfz47_6
                try clear hfz47_7
                try clear hfz47_8
                try clear hfz47_9
                try clear hfz48_0
                try clear hfz48_1
                try clear hfz48_10
                try clear hfz48_2
                try clear hfz48_3
                try clear hfz48_4
                try clear hfz48_5
                try clear hfz48_6
                try clear hfz48_7
                try clear hfz48_8
                try clear hfz48_9
                try clear hfz55_0
                try clear hfz55_1
                try clear hfz55_10
                try clear hfz55_2
                try clear hfz55_3
                try clear hfz55_4
                try clear hfz55_5
                try clear hfz55_6
                try clear hfz55_7
                try clear hfz55_8
                try clear hfz55_9
                try clear hfz56_0
                try clear hfz56_1
                try clear hfz56_10
                try clear hfz56_2
                try clear hfz56_3
                try clear hfz56_4
                try clear hfz56_5
                try clear hfz56_6
                try clear hfz56_7
                try clear hfz56_8
                try clear hfz56_9
                try clear hfz58_0
                try clear hfz58_1
                try clear hfz58_10
                try clear hfz58_2
                try clear hfz58_3
                try clear hfz58_4
                try clear hfz58_5
                try clear hfz58_6
                try clear hfz58_7
                try clear hfz58_8
                try clear hfz58_9
                try clear hfz59_0
                try clear hfz59_1
                try clear hfz59_10
                try clear hfz59_2
                try clear hfz59_3
                try clear hfz59_4
                try clear hfz59_5
                try clear hfz59_6
                try clear hfz59_7
                try clear hfz59_8
                try clear hfz59_9
                try clear hfz61_0
                try clear hfz61_1
                try clear hfz61_10
                try clear hfz61_2
                try clear hfz61_3
                try clear hfz61_4
                try clear hfz61_5
                try clear hfz61_6
                try clear hfz61_7
                try clear hfz61_8
                try clear hfz61_9
                try clear hx357_0
                try clear hx357_1
                try clear hx357_2
                try clear hx357_3
                try clear hx357_4
                try clear hx357_5
                try clear hx358_0
                try clear hx358_1
                try clear hx358_2
                try clear hx358_3
                try clear hx358_4
                try clear hx358_5
                try clear p2
                try clear p357
                try clear p358
                try clear q357
                try clear q358
                obtain ⟨x6_3, rfl, HA, HK3, BK355, BK356, HB⟩ := hrel
                cases gk with
                | zero => exact absurd HA.out (by simp [wharfref14_Same.l1])
                | succ k3 =>
                  have H := HA.out
                  clear HA
                  simp only [wharfref14_Same.l1] at H
                  by_cases c62 : x6_3 < (l0_10.length : Int)
                  · rw [if_pos c62] at H
                    have c62b0 : decide (x6_3 < (l0_10.length : Int)) = true := decide_eq_true c62
                    clear c62
                    by_cases c63 : 0 ≤ x6_3
                    · rw [if_pos c63] at H
                      have c63b0 : decide (0 ≤ x6_3) = true := decide_eq_true c63
                      clear c63
                      by_cases c64 : x6_3 < (l1_10.length : Int)
                      · rw [if_pos c64] at H
                        have c64b0 : decide (x6_3 < (l1_10.length : Int)) = true := decide_eq_true c64
                        clear c64
                        by_cases c65 : (rd l0_10 x6_3) = (rd l1_10 x6_3)
                        · rw [if_pos c65] at H
                          have c65b0 : ((rd l0_10 x6_3) == (rd l1_10 x6_3)) = true := beq_iff_eq.mpr c65
                          have c65b1 : ((rd l0_10 x6_3) != (rd l1_10 x6_3)) = false := bne_eq_false_iff_eq.mpr c65
                          clear c65
                          have H' := Aside0.mk H
                          clear H
                          have hnb66 := NB355_356.out
                          have hnc66 := NB356_355.out
                          have hcz67_0 : wr.cell? ⟨gb355, 0, none⟩ = some (.int .i64 a0_0) := (blk_cell BK355.out 0).trans rfl
                          have hcz67_1 : wr.cell? ⟨gb355, 1, none⟩ = some (.string a0_1) := (blk_cell BK355.out 1).trans rfl
                          have hcz67_2 : wr.cell? ⟨gb355, 2, none⟩ = some (.string a0_2) := (blk_cell BK355.out 2).trans rfl
                          have hcz67_3 : wr.cell? ⟨gb355, 3, none⟩ = some (.string a0_3) := (blk_cell BK355.out 3).trans rfl
                          have hcz67_4 : wr.cell? ⟨gb355, 4, none⟩ = some (.int .i64 a0_4) := (blk_cell BK355.out 4).trans rfl
                          have hcz67_5 : wr.cell? ⟨gb355, 5, none⟩ = some (.int .i64 a0_5) := (blk_cell BK355.out 5).trans rfl
                          have hcz67_6 : wr.cell? ⟨gb355, 6, none⟩ = some (.int .i64 a0_6) := (blk_cell BK355.out 6).trans rfl
                          have hcz67_7 : wr.cell? ⟨gb355, 7, none⟩ = some (.int .i64 a0_7) := (blk_cell BK355.out 7).trans rfl
                          have hcz67_8 : wr.cell? ⟨gb355, 8, none⟩ = some (.bool a0_8) := (blk_cell BK355.out 8).trans rfl
                          have hcz67_9 : wr.cell? ⟨gb355, 9, none⟩ = some (.slice A0_9 l0_9.length c0_9) := (blk_cell BK355.out 9).trans rfl
                          have hcz67_10 : wr.cell? ⟨gb355, 10, none⟩ = some (.slice A0_10 l0_10.length c0_10) := (blk_cell BK355.out 10).trans rfl
                          have hfz67_0 := blk_frozen BK355.out 0
                          have hfz67_1 := blk_frozen BK355.out 1
                          have hfz67_2 := blk_frozen BK355.out 2
                          have hfz67_3 := blk_frozen BK355.out 3
                          have hfz67_4 := blk_frozen BK355.out 4
                          have hfz67_5 := blk_frozen BK355.out 5
                          have hfz67_6 := blk_frozen BK355.out 6
                          have hfz67_7 := blk_frozen BK355.out 7
                          have hfz67_8 := blk_frozen BK355.out 8
                          have hfz67_9 := blk_frozen BK355.out 9
                          have hfz67_10 := blk_frozen BK355.out 10
                          have p359 : 0 ≤ (x6_3 : Int) := of_decide_eq_true (by first | (with_reducible assumption) | assumption)
                          have q359 : x6_3 < (l0_10.length : Int) := of_decide_eq_true (by first | (with_reducible assumption) | assumption)
                          obtain ⟨ad359, e359, hx359_0⟩ := Kd.at_int HR0_10.out x6_3 p359 q359
                          cases e359
                          replace hx359_0 := (HB.out.cell (World.block_lt_of_cell? w _ hx359_0)).trans hx359_0
                          replace p359 := eq_true p359
                          replace q359 := eq_true q359
                          have hcz68_0 : wr.cell? ⟨gb356, 0, none⟩ = some (.int .i64 a1_0) := (blk_cell BK356.out 0).trans rfl
                          have hcz68_1 : wr.cell? ⟨gb356, 1, none⟩ = some (.string a1_1) := (blk_cell BK356.out 1).trans rfl
                          have hcz68_2 : wr.cell? ⟨gb356, 2, none⟩ = some (.string a1_2) := (blk_cell BK356.out 2).trans rfl
                          have hcz68_3 : wr.cell? ⟨gb356, 3, none⟩ = some (.string a1_3) := (blk_cell BK356.out 3).trans rfl
                          have hcz68_4 : wr.cell? ⟨gb356, 4, none⟩ = some (.int .i64 a1_4) := (blk_cell BK356.out 4).trans rfl
                          have hcz68_5 : wr.cell? ⟨gb356, 5, none⟩ = some (.int .i64 a1_5) := (blk_cell BK356.out 5).trans rfl
                          have hcz68_6 : wr.cell? ⟨gb356, 6, none⟩ = some (.int .i64 a1_6) := (blk_cell BK356.out 6).trans rfl
                          have hcz68_7 : wr.cell? ⟨gb356, 7, none⟩ = some (.int .i64 a1_7) := (blk_cell BK356.out 7).trans rfl
                          have hcz68_8 : wr.cell? ⟨gb356, 8, none⟩ = some (.bool a1_8) := (blk_cell BK356.out 8).trans rfl
                          have hcz68_9 : wr.cell? ⟨gb356, 9, none⟩ = some (.slice A1_9 l1_9.length c1_9) := (blk_cell BK356.out 9).trans rfl
                          have hcz68_10 : wr.cell? ⟨gb356, 10, none⟩ = some (.slice A1_10 l1_10.length c1_10) := (blk_cell BK356.out 10).trans rfl
                          have hfz68_0 := blk_frozen BK356.out 0
                          have hfz68_1 := blk_frozen BK356.out 1
                          have hfz68_2 := blk_frozen BK356.out 2
                          have hfz68_3 := blk_frozen BK356.out 3
                          have hfz68_4 := blk_frozen BK356.out 4
                          have hfz68_5 := blk_frozen BK356.out 5
                          have hfz68_6 := blk_frozen BK356.out 6
                          have hfz68_7 := blk_frozen BK356.out 7
                          have hfz68_8 := blk_frozen BK356.out 8
                          have hfz68_9 := blk_frozen BK356.out 9
                          have hfz68_10 := blk_frozen BK356.out 10
                          have p360 : 0 ≤ (x6_3 : Int) := of_decide_eq_true (by first | (with_reducible assumption) | assumption)
                          have q360 : x6_3 < (l1_10.length : Int) := of_decide_eq_true (by first | (with_reducible assumption) | assumption)
                          obtain ⟨ad360, e360, hx360_0⟩ := Kd.at_int HR1_10.out x6_3 p360 q360
                          cases e360
                          replace hx360_0 := (HB.out.cell (World.block_lt_of_cell? w _ hx360_0)).trans hx360_0
                          replace p360 := eq_true p360
                          replace q360 := eq_true q360
                          go_wp2
                          repeat (go_quiet (fail); try go_wp2)
                          go_roundg k3
                          case measure => have := HJ2.out; have := HK2.out; have := HK3.out; omega
                          case rel => exact ⟨(wrap64 (x6_3 + 1)), (by first | rfl | (simp; done) | (simp [*]; done)), H', ⟨by have := HJ2.out; have := HK2.out; have := HK3.out; omega⟩, ⟨by (with_reducible repeat (first | refine blk_drewN ?_ _ | refine blk_drew ?_ | refine blk_alloc ?_ _)); exact BK355.out⟩, ⟨by (with_reducible repeat (first | refine blk_drewN ?_ _ | refine blk_drew ?_ | refine blk_alloc ?_ _)); exact BK356.out⟩, ⟨by repeat (first | (with_reducible first | exact HB.out | apply below_alloc | apply pw_below_drewN | apply below_drew1 | refine below_set ?_ GE355.out | refine below_set ?_ GE356.out) | exact HB.out)⟩⟩
                        · rw [if_neg c65] at H
                          have c65b0 : ((rd l0_10 x6_3) == (rd l1_10 x6_3)) = false := beq_eq_false_iff_ne.mpr c65
                          have c65b1 : ((rd l0_10 x6_3) != (rd l1_10 x6_3)) = true := bne_iff_ne.mpr c65
                          obtain rfl := Option.some.inj H
                          have hnb69 := NB355_356.out
                          have hnc69 := NB356_355.out
                          have hcz70_0 : wr.cell? ⟨gb355, 0, none⟩ = some (.int .i64 a0_0) := (blk_cell BK355.out 0).trans rfl
                          have hcz70_1 : wr.cell? ⟨gb355, 1, none⟩ = some (.string a0_1) := (blk_cell BK355.out 1).trans rfl
                          have hcz70_2 : wr.cell? ⟨gb355, 2, none⟩ = some (.string a0_2) := (blk_cell BK355.out 2).trans rfl
                          have hcz70_3 : wr.cell? ⟨gb355, 3, none⟩ = some (.string a0_3) := (blk_cell BK355.out 3).trans rfl
                          have hcz70_4 : wr.cell? ⟨gb355, 4, none⟩ = some (.int .i64 a0_4) := (blk_cell BK355.out 4).trans rfl
                          have hcz70_5 : wr.cell? ⟨gb355, 5, none⟩ = some (.int .i64 a0_5) := (blk_cell BK355.out 5).trans rfl
                          have hcz70_6 : wr.cell? ⟨gb355, 6, none⟩ = some (.int .i64 a0_6) := (blk_cell BK355.out 6).trans rfl
                          have hcz70_7 : wr.cell? ⟨gb355, 7, none⟩ = some (.int .i64 a0_7) := (blk_cell BK355.out 7).trans rfl
                          have hcz70_8 : wr.cell? ⟨gb355, 8, none⟩ = some (.bool a0_8) := (blk_cell BK355.out 8).trans rfl
                          have hcz70_9 : wr.cell? ⟨gb355, 9, none⟩ = some (.slice A0_9 l0_9.length c0_9) := (blk_cell BK355.out 9).trans rfl
                          have hcz70_10 : wr.cell? ⟨gb355, 10, none⟩ = some (.slice A0_10 l0_10.length c0_10) := (blk_cell BK355.out 10).trans rfl
                          have hfz70_0 := blk_frozen BK355.out 0
                          have hfz70_1 := blk_frozen BK355.out 1
                          have hfz70_2 := blk_frozen BK355.out 2
                          have hfz70_3 := blk_frozen BK355.out 3
                          have hfz70_4 := blk_frozen BK355.out 4
                          have hfz70_5 := blk_frozen BK355.out 5
                          have hfz70_6 := blk_frozen BK355.out 6
                          have hfz70_7 := blk_frozen BK355.out 7
                          have hfz70_8 := blk_frozen BK355.out 8
                          have hfz70_9 := blk_frozen BK355.out 9
                          have hfz70_10 := blk_frozen BK355.out 10
                          have p359 : 0 ≤ (x6_3 : Int) := of_decide_eq_true (by first | (with_reducible assumption) | assumption)
                          have q359 : x6_3 < (l0_10.length : Int) := of_decide_eq_true (by first | (with_reducible assumption) | assumption)
                          obtain ⟨ad359, e359, hx359_0⟩ := Kd.at_int HR0_10.out x6_3 p359 q359
                          cases e359
                          replace hx359_0 := (HB.out.cell (World.block_lt_of_cell? w _ hx359_0)).trans hx359_0
                          replace p359 := eq_true p359
                          replace q359 := eq_true q359
                          have hcz71_0 : wr.cell? ⟨gb356, 0, none⟩ = some (.int .i64 a1_0) := (blk_cell BK356.out 0).trans rfl
                          have hcz71_1 : wr.cell? ⟨gb356, 1, none⟩ = some (.string a1_1) := (blk_cell BK356.out 1).trans rfl
                          have hcz71_2 : wr.cell? ⟨gb356, 2, none⟩ = some (.string a1_2) := (blk_cell BK356.out 2).trans rfl
                          have hcz71_3 : wr.cell? ⟨gb356, 3, none⟩ = some (.string a1_3) := (blk_cell BK356.out 3).trans rfl
                          have hcz71_4 : wr.cell? ⟨gb356, 4, none⟩ = some (.int .i64 a1_4) := (blk_cell BK356.out 4).trans rfl
                          have hcz71_5 : wr.cell? ⟨gb356, 5, none⟩ = some (.int .i64 a1_5) := (blk_cell BK356.out 5).trans rfl
                          have hcz71_6 : wr.cell? ⟨gb356, 6, none⟩ = some (.int .i64 a1_6) := (blk_cell BK356.out 6).trans rfl
                          have hcz71_7 : wr.cell? ⟨gb356, 7, none⟩ = some (.int .i64 a1_7) := (blk_cell BK356.out 7).trans rfl
                          have hcz71_8 : wr.cell? ⟨gb356, 8, none⟩ = some (.bool a1_8) := (blk_cell BK356.out 8).trans rfl
                          have hcz71_9 : wr.cell? ⟨gb356, 9, none⟩ = some (.slice A1_9 l1_9.length c1_9) := (blk_cell BK356.out 9).trans rfl
                          have hcz71_10 : wr.cell? ⟨gb356, 10, none⟩ = some (.slice A1_10 l1_10.length c1_10) := (blk_cell BK356.out 10).trans rfl
                          have hfz71_0 := blk_frozen BK356.out 0
                          have hfz71_1 := blk_frozen BK356.out 1
                          have hfz71_2 := blk_frozen BK356.out 2
                          have hfz71_3 := blk_frozen BK356.out 3
                          have hfz71_4 := blk_frozen BK356.out 4
                          have hfz71_5 := blk_frozen BK356.out 5
                          have hfz71_6 := blk_frozen BK356.out 6
                          have hfz71_7 := blk_frozen BK356.out 7
                          have hfz71_8 := blk_frozen BK356.out 8
                          have hfz71_9 := blk_frozen BK356.out 9
                          have hfz71_10 := blk_frozen BK356.out 10
                          have p360 : 0 ≤ (x6_3 : Int) := of_decide_eq_true (by first | (with_reducible assumption) | assumption)
                          have q360 : x6_3 < (l1_10.length : Int) := of_decide_eq_true (by first | (with_reducible assumption) | assumption)
                          obtain ⟨ad360, e360, hx360_0⟩ := Kd.at_int HR1_10.out x6_3 p360 q360
                          cases e360
                          replace hx360_0 := (HB.out.cell (World.block_lt_of_cell? w _ hx360_0)).trans hx360_0
                          replace p360 := eq_true p360
                          replace q360 := eq_true q360
                          go_wp2
                          repeat (go_quiet (fail); try go_wp2)
                          go_ret
                          exact ⟨by first | rfl | (simp [errW_none, errW_some] <;> rfl) | (simp [*, errW_none, errW_some] <;> rfl), by repeat (first | (with_reducible first | exact HB.out | apply below_alloc | apply pw_below_drewN | apply below_drew1 | refine below_set ?_ GE355.out | refine below_set ?_ GE356.out) | exact HB.out)⟩
                      · rw [if_neg c64] at H
                        exact absurd H (by simp)
                    · rw [if_neg c63] at H
                      exact absurd H (by simp)
                  · rw [if_neg c62] at H
                    have c62b0 : decide (x6_3 < (l0_10.length : Int)) = false := decide_eq_false c62
                    clear c62
                    obtain rfl := Option.some.inj H
                    have hnb72 := NB355_356.out
                    have hnc72 := NB356_355.out
                    have hcz73_0 : wr.cell? ⟨gb355, 0, none⟩ = some (.int .i64 a0_0) := (blk_cell BK355.out 0).trans rfl
                    have hcz73_1 : wr.cell? ⟨gb355, 1, none⟩ = some (.string a0_1) := (blk_cell BK355.out 1).trans rfl
                    have hcz73_2 : wr.cell? ⟨gb355, 2, none⟩ = some (.string a0_2) := (blk_cell BK355.out 2).trans rfl
                    have hcz73_3 : wr.cell? ⟨gb355, 3, none⟩ = some (.string a0_3) := (blk_cell BK355.out 3).trans rfl
                    have hcz73_4 : wr.cell? ⟨gb355, 4, none⟩ = some (.int .i64 a0_4) := (blk_cell BK355.out 4).trans rfl
                    have hcz73_5 : wr.cell? ⟨gb355, 5, none⟩ = some (.int .i64 a0_5) := (blk_cell BK355.out 5).trans rfl
                    have hcz73_6 : wr.cell? ⟨gb355, 6, none⟩ = some (.int .i64 a0_6) := (blk_cell BK355.out 6).trans rfl
                    have hcz73_7 : wr.cell? ⟨gb355, 7, none⟩ = some (.int .i64 a0_7) := (blk_cell BK355.out 7).trans rfl
                    have hcz73_8 : wr.cell? ⟨gb355, 8, none⟩ = some (.bool a0_8) := (blk_cell BK355.out 8).trans rfl
                    have hcz73_9 : wr.cell? ⟨gb355, 9, none⟩ = some (.slice A0_9 l0_9.length c0_9) := (blk_cell BK355.out 9).trans rfl
                    have hcz73_10 : wr.cell? ⟨gb355, 10, none⟩ = some (.slice A0_10 l0_10.length c0_10) := (blk_cell BK355.out 10).trans rfl
                    have hfz73_0 := blk_frozen BK355.out 0
                    have hfz73_1 := blk_frozen BK355.out 1
                    have hfz73_2 := blk_frozen BK355.out 2
                    have hfz73_3 := blk_frozen BK355.out 3
                    have hfz73_4 := blk_frozen BK355.out 4
                    have hfz73_5 := blk_frozen BK355.out 5
                    have hfz73_6 := blk_frozen BK355.out 6
                    have hfz73_7 := blk_frozen BK355.out 7
                    have hfz73_8 := blk_frozen BK355.out 8
                    have hfz73_9 := blk_frozen BK355.out 9
                    have hfz73_10 := blk_frozen BK355.out 10
                    go_wp2
                    repeat (go_quiet (fail); try go_wp2)
                    go_ret
                    exact ⟨by first | rfl | (simp [errW_none, errW_some] <;> rfl) | (simp [*, errW_none, errW_some] <;> rfl), by repeat (first | (with_reducible first | exact HB.out | apply below_alloc | apply pw_below_drewN | apply below_drew1 | refine below_set ?_ GE355.out | refine below_set ?_ GE356.out) | exact HB.out)⟩

end Go.Proofs.Ytbeclnffcapfpaa.H
