-- written by hp.py for this claim, out of the kit's printer and texts of my own
import Derived.Test.YtbeclnffcapfpaaHx0
namespace Go.Proofs.Ytbeclnffcapfpaa.H
open Go.RowKit Go.Proofs.YtbeclnffcapfpaaW.PrintWords Go.Proofs.YtbeclnffcapfpaaW.PrintLast Go.Proofs.YtbeclnffcapfpaaW.PrintMore
attribute [local go_sem] max2_int min2_int max_two min_two max_three min_three max_four min_four   -- for this text's walks alone
set_option linter.unusedVariables false
set_option linter.unusedSimpArgs false

/-! ### wharfref14_Weight: function 32 -/
def wharfref14_Weight.l0 : Nat → Int → Int → Int → Int → ByteArray → ByteArray → ByteArray → Int → Int → Int → Int → Bool → List (S69) → List Int → Option (Int)
  | 0, _, _, _, _, _, _, _, _, _, _, _, _, _, _ => none
  | k + 1, x1, x5, x6, x310000, x310001, x310002, x310003, x310004, x310005, x310006, x310007, x310008, x310009, x310010 => if x6 < (x310009.length : Int) then (if x5 ≤ x1 then (if 0 ≤ x6 then (wharfref14_Weight.l0 k x1 (wrap64 ((wrap64 ((wrap64 (x5 + 1)) + (((rd_T69 x310009 x6).f0).size : Int))) + (((rd_T69 x310009 x6).f4).size : Int))) (wrap64 (x6 + 1)) x310000 x310001 x310002 x310003 x310004 x310005 x310006 x310007 x310008 x310009 x310010) else (none)) else (some x5)) else (some x5)
def wharfref14_Weight.f (k : Nat) (a0_0 : Int) (a0_1 : ByteArray) (a0_2 : ByteArray) (a0_3 : ByteArray) (a0_4 : Int) (a0_5 : Int) (a0_6 : Int) (a0_7 : Int) (a0_8 : Bool) (l0_9 : List (S69)) (l0_10 : List Int) (a1 : Int) : Option (Int) := wharfref14_Weight.l0 k a1 (wrap64 ((wrap64 ((wrap64 ((a0_1.size : Int) + (a0_2.size : Int))) + (a0_3.size : Int))) + (l0_10.length : Int))) 0 a0_0 a0_1 a0_2 a0_3 a0_4 a0_5 a0_6 a0_7 a0_8 l0_9 l0_10
theorem wharfref14_Weight.mono_l : ∀ k, (∀ y0 y1 y2 y3 y4 y5 y6 y7 y8 y9 y10 y11 y12 y13, LeO (wharfref14_Weight.l0 k y0 y1 y2 y3 y4 y5 y6 y7 y8 y9 y10 y11 y12 y13) (wharfref14_Weight.l0 (k + 1) y0 y1 y2 y3 y4 y5 y6 y7 y8 y9 y10 y11 y12 y13))
  | 0 => fun _ _ _ _ _ _ _ _ _ _ _ _ _ _ r h => by simp [wharfref14_Weight.l0] at h
  | k + 1 => by
    have ih0 := wharfref14_Weight.mono_l k
    · intro y0 y1 y2 y3 y4 y5 y6 y7 y8 y9 y10 y11 y12 y13
      unfold wharfref14_Weight.l0
      repeat' first
      | (with_reducible exact ih0 _ _ _ _ _ _ _ _ _ _ _ _ _ _)
      | (with_reducible exact LeO.refl _)
      | (with_reducible exact LeO.none _)
      | (with_reducible refine LeO.ite ?_ ?_)
      | (with_reducible refine LeO.bind ?_ (fun _ => ?_))
      | exact ih0 _ _ _ _ _ _ _ _ _ _ _ _ _ _
      | exact LeO.none _
      | refine LeO.ite ?_ ?_
      | refine LeO.bind ?_ (fun _ => ?_)
theorem wharfref14_Weight.mono : ∀ a0 a1 a2 a3 a4 a5 a6 a7 a8 a9 a10 a11 k, LeO (wharfref14_Weight.f k a0 a1 a2 a3 a4 a5 a6 a7 a8 a9 a10 a11) (wharfref14_Weight.f (k + 1) a0 a1 a2 a3 a4 a5 a6 a7 a8 a9 a10 a11) := by
  intro a0 a1 a2 a3 a4 a5 a6 a7 a8 a9 a10 a11 k
  have ih0 := wharfref14_Weight.mono_l k
  unfold wharfref14_Weight.f
  repeat' first
      | (with_reducible exact ih0 _ _ _ _ _ _ _ _ _ _ _ _ _ _)
      | (with_reducible exact LeO.refl _)
      | (with_reducible exact LeO.none _)
      | (with_reducible refine LeO.ite ?_ ?_)
      | (with_reducible refine LeO.bind ?_ (fun _ => ?_))
      | exact ih0 _ _ _ _ _ _ _ _ _ _ _ _ _ _
      | exact LeO.none _
      | refine LeO.ite ?_ ?_
      | refine LeO.bind ?_ (fun _ => ?_)
set_option maxHeartbeats 8000000 in
set_option maxRecDepth 100000 in
theorem wharfref14_Weight.calls (k : Nat) (a0_0 : Int) (a0_1 : ByteArray) (a0_2 : ByteArray) (a0_3 : ByteArray) (a0_4 : Int) (a0_5 : Int) (a0_6 : Int) (a0_7 : Int) (a0_8 : Bool) (A0_9 : Option Addr) (c0_9 : Nat) (l0_9 : List (S69)) (A0_10 : Option Addr) (c0_10 : Nat) (l0_10 : List Int) (a1 : Int) (r : Int) (w : World) (hr0_9 : Kd.C k69 w A0_9 l0_9.length l0_9) (hc0_9 : l0_9.length ≤ c0_9) (hr0_10 : Kd.C (Kd.int .i64) w A0_10 l0_10.length l0_10) (hc0_10 : l0_10.length ≤ c0_10) (h : wharfref14_Weight.f k a0_0 a0_1 a0_2 a0_3 a0_4 a0_5 a0_6 a0_7 a0_8 l0_9 l0_10 a1 = some r) :
    Calls Try.prog 32 #[.agg #[.int .i64 a0_0, .string a0_1, .string a0_2, .string a0_3, .int .i64 a0_4, .int .i64 a0_5, .int .i64 a0_6, .int .i64 a0_7, .bool a0_8, .slice A0_9 l0_9.length c0_9, .slice A0_10 l0_10.length c0_10], .int .i64 a1] w fun e w' => e = .returned (.int .i64 r) ∧ Below w.heap.size w w' := by
  have hu41 := Try.underlying41
  have HR0_9 := Aside0.mk hr0_9
  have HC0_9 := Aside0.mk hc0_9
  clear hr0_9 hc0_9
  have HR0_10 := Aside0.mk hr0_10
  have HC0_10 := Aside0.mk hc0_10
  clear hr0_10 hc0_10
  have HB := Aside0.mk (Below.refl w.heap.size w)
  have H : (wharfref14_Weight.l0 k a1 (wrap64 ((wrap64 ((wrap64 ((a0_1.size : Int) + (a0_2.size : Int))) + (a0_3.size : Int))) + (l0_10.length : Int))) 0 a0_0 a0_1 a0_2 a0_3 a0_4 a0_5 a0_6 a0_7 a0_8 l0_9 l0_10) = some r := h
  clear h
  have H' := Aside0.mk H
  clear H
  go_enter Try.func32, Try.ntmps32
  go_wp2_with (first | ((with_reducible refine gate_dst (N := 2) rfl ?_); refine box_event ?hg (N := 2) ?hd (cs := #[.int .i64 a0_0, .string a0_1, .string a0_2, .string a0_3, .int .i64 a0_4, .int .i64 a0_5, .int .i64 a0_6, .int .i64 a0_7, .bool a0_8, .slice A0_9 l0_9.length c0_9, .slice A0_10 l0_10.length c0_10]) (t := 41) ?hr ?_; (case hd => rfl); (case hg => rfl); (case hr => first | (go_simp; done) | (go_simp; rfl)); intro gb309 hg w3 hbox hb; have n0_ := Aside0.mk (below_step (by repeat (first | (with_reducible first | exact HB.out | apply below_alloc | apply pw_below_drewN | apply below_drew1) | exact HB.out)) hb); have n1_ := Aside0.mk (hbox); have n2_ := Aside0.mk ((by rw [hg]; exact (below_size (by repeat (first | (with_reducible first | exact HB.out | apply below_alloc | apply pw_below_drewN | apply below_drew1) | exact HB.out))) : w.heap.size ≤ gb309)); have n3_ := Aside0.mk ((by rw [hg]; exact (below_size (by repeat (first | (with_reducible first | exact HB.out | apply below_alloc | apply pw_below_drewN | apply below_drew1) | exact HB.out))) : w.heap.size ≤ gb309)); clear HB; have HB := n0_; have BK309 := n1_; have GW309 := n2_; have GE309 := n3_; clear n0_ n1_ n2_ n3_; clear hb hbox hg; have hcz4_0 : w3.cell? ⟨gb309, 0, none⟩ = some (.int .i64 a0_0) := (blk_cell BK309.out 0).trans rfl; have hcz4_1 : w3.cell? ⟨gb309, 1, none⟩ = some (.string a0_1) := (blk_cell BK309.out 1).trans rfl; have hcz4_2 : w3.cell? ⟨gb309, 2, none⟩ = some (.string a0_2) := (blk_cell BK309.out 2).trans rfl; have hcz4_3 : w3.cell? ⟨gb309, 3, none⟩ = some (.string a0_3) := (blk_cell BK309.out 3).trans rfl; have hcz4_4 : w3.cell? ⟨gb309, 4, none⟩ = some (.int .i64 a0_4) := (blk_cell BK309.out 4).trans rfl; have hcz4_5 : w3.cell? ⟨gb309, 5, none⟩ = some (.int .i64 a0_5) := (blk_cell BK309.out 5).trans rfl; have hcz4_6 : w3.cell? ⟨gb309, 6, none⟩ = some (.int .i64 a0_6) := (blk_cell BK309.out 6).trans rfl; have hcz4_7 : w3.cell? ⟨gb309, 7, none⟩ = some (.int .i64 a0_7) := (blk_cell BK309.out 7).trans rfl; have hcz4_8 : w3.cell? ⟨gb309, 8, none⟩ = some (.bool a0_8) := (blk_cell BK309.out 8).trans rfl; have hcz4_9 : w3.cell? ⟨gb309, 9, none⟩ = some (.slice A0_9 l0_9.length c0_9) := (blk_cell BK309.out 9).trans rfl; have hcz4_10 : w3.cell? ⟨gb309, 10, none⟩ = some (.slice A0_10 l0_10.length c0_10) := (blk_cell BK309.out 10).trans rfl; have hfz4_0 := blk_frozen BK309.out 0; have hfz4_1 := blk_frozen BK309.out 1; have hfz4_2 := blk_frozen BK309.out 2; have hfz4_3 := blk_frozen BK309.out 3; have hfz4_4 := blk_frozen BK309.out 4; have hfz4_5 := blk_frozen BK309.out 5; have hfz4_6 := blk_frozen BK309.out 6; have hfz4_7 := blk_frozen BK309.out 7; have hfz4_8 := blk_frozen BK309.out 8; have hfz4_9 := blk_frozen BK309.out 9; have hfz4_10 := blk_frozen BK309.out 10))
  repeat (go_quiet (first | ((with_reducible refine gate_dst (N := 2) rfl ?_); refine box_event ?hg (N := 2) ?hd (cs := #[.int .i64 a0_0, .string a0_1, .string a0_2, .string a0_3, .int .i64 a0_4, .int .i64 a0_5, .int .i64 a0_6, .int .i64 a0_7, .bool a0_8, .slice A0_9 l0_9.length c0_9, .slice A0_10 l0_10.length c0_10]) (t := 41) ?hr ?_; (case hd => rfl); (case hg => rfl); (case hr => first | (go_simp; done) | (go_simp; rfl)); intro gb309 hg w3 hbox hb; have n0_ := Aside0.mk (below_step (by repeat (first | (with_reducible first | exact HB.out | apply below_alloc | apply pw_below_drewN | apply below_drew1) | exact HB.out)) hb); have n1_ := Aside0.mk (hbox); have n2_ := Aside0.mk ((by rw [hg]; exact (below_size (by repeat (first | (with_reducible first | exact HB.out | apply below_alloc | apply pw_below_drewN | apply below_drew1) | exact HB.out))) : w.heap.size ≤ gb309)); have n3_ := Aside0.mk ((by rw [hg]; exact (below_size (by repeat (first | (with_reducible first | exact HB.out | apply below_alloc | apply pw_below_drewN | apply below_drew1) | exact HB.out))) : w.heap.size ≤ gb309)); clear HB; have HB := n0_; have BK309 := n1_; have GW309 := n2_; have GE309 := n3_; clear n0_ n1_ n2_ n3_; clear hb hbox hg; have hcz4_0 : w3.cell? ⟨gb309, 0, none⟩ = some (.int .i64 a0_0) := (blk_cell BK309.out 0).trans rfl; have hcz4_1 : w3.cell? ⟨gb309, 1, none⟩ = some (.string a0_1) := (blk_cell BK309.out 1).trans rfl; have hcz4_2 : w3.cell? ⟨gb309, 2, none⟩ = some (.string a0_2) := (blk_cell BK309.out 2).trans rfl; have hcz4_3 : w3.cell? ⟨gb309, 3, none⟩ = some (.string a0_3) := (blk_cell BK309.out 3).trans rfl; have hcz4_4 : w3.cell? ⟨gb309, 4, none⟩ = some (.int .i64 a0_4) := (blk_cell BK309.out 4).trans rfl; have hcz4_5 : w3.cell? ⟨gb309, 5, none⟩ = some (.int .i64 a0_5) := (blk_cell BK309.out 5).trans rfl; have hcz4_6 : w3.cell? ⟨gb309, 6, none⟩ = some (.int .i64 a0_6) := (blk_cell BK309.out 6).trans rfl; have hcz4_7 : w3.cell? ⟨gb309, 7, none⟩ = some (.int .i64 a0_7) := (blk_cell BK309.out 7).trans rfl; have hcz4_8 : w3.cell? ⟨gb309, 8, none⟩ = some (.bool a0_8) := (blk_cell BK309.out 8).trans rfl; have hcz4_9 : w3.cell? ⟨gb309, 9, none⟩ = some (.slice A0_9 l0_9.length c0_9) := (blk_cell BK309.out 9).trans rfl; have hcz4_10 : w3.cell? ⟨gb309, 10, none⟩ = some (.slice A0_10 l0_10.length c0_10) := (blk_cell BK309.out 10).trans rfl; have hfz4_0 := blk_frozen BK309.out 0; have hfz4_1 := blk_frozen BK309.out 1; have hfz4_2 := blk_frozen BK309.out 2; have hfz4_3 := blk_frozen BK309.out 3; have hfz4_4 := blk_frozen BK309.out 4; have hfz4_5 := blk_frozen BK309.out 5; have hfz4_6 := blk_frozen BK309.out 6; have hfz4_7 := blk_frozen BK309.out 7; have hfz4_8 := blk_frozen BK309.out 8; have hfz4_9 := blk_frozen BK309.out 9; have hfz4_10 := blk_frozen BK309.out 10)); try go_wp2_with (first | ((with_reducible refine gate_dst (N := 2) rfl ?_); refine box_event ?hg (N := 2) ?hd (cs := #[.int .i64 a0_0, .string a0_1, .string a0_2, .string a0_3, .int .i64 a0_4, .int .i64 a0_5, .int .i64 a0_6, .int .i64 a0_7, .bool a0_8, .slice A0_9 l0_9.length c0_9, .slice A0_10 l0_10.length c0_10]) (t := 41) ?hr ?_; (case hd => rfl); (case hg => rfl); (case hr => first | (go_simp; done) | (go_simp; rfl)); intro gb309 hg w3 hbox hb; have n0_ := Aside0.mk (below_step (by repeat (first | (with_reducible first | exact HB.out | apply below_alloc | apply pw_below_drewN | apply below_drew1) | exact HB.out)) hb); have n1_ := Aside0.mk (hbox); have n2_ := Aside0.mk ((by rw [hg]; exact (below_size (by repeat (first | (with_reducible first | exact HB.out | apply below_alloc | apply pw_below_drewN | apply below_drew1) | exact HB.out))) : w.heap.size ≤ gb309)); have n3_ := Aside0.mk ((by rw [hg]; exact (below_size (by repeat (first | (with_reducible first | exact HB.out | apply below_alloc | apply pw_below_drewN | apply below_drew1) | exact HB.out))) : w.heap.size ≤ gb309)); clear HB; have HB := n0_; have BK309 := n1_; have GW309 := n2_; have GE309 := n3_; clear n0_ n1_ n2_ n3_; clear hb hbox hg; have hcz4_0 : w3.cell? ⟨gb309, 0, none⟩ = some (.int .i64 a0_0) := (blk_cell BK309.out 0).trans rfl; have hcz4_1 : w3.cell? ⟨gb309, 1, none⟩ = some (.string a0_1) := (blk_cell BK309.out 1).trans rfl; have hcz4_2 : w3.cell? ⟨gb309, 2, none⟩ = some (.string a0_2) := (blk_cell BK309.out 2).trans rfl; have hcz4_3 : w3.cell? ⟨gb309, 3, none⟩ = some (.string a0_3) := (blk_cell BK309.out 3).trans rfl; have hcz4_4 : w3.cell? ⟨gb309, 4, none⟩ = some (.int .i64 a0_4) := (blk_cell BK309.out 4).trans rfl; have hcz4_5 : w3.cell? ⟨gb309, 5, none⟩ = some (.int .i64 a0_5) := (blk_cell BK309.out 5).trans rfl; have hcz4_6 : w3.cell? ⟨gb309, 6, none⟩ = some (.int .i64 a0_6) := (blk_cell BK309.out 6).trans rfl; have hcz4_7 : w3.cell? ⟨gb309, 7, none⟩ = some (.int .i64 a0_7) := (blk_cell BK309.out 7).trans rfl; have hcz4_8 : w3.cell? ⟨gb309, 8, none⟩ = some (.bool a0_8) := (blk_cell BK309.out 8).trans rfl; have hcz4_9 : w3.cell? ⟨gb309, 9, none⟩ = some (.slice A0_9 l0_9.length c0_9) := (blk_cell BK309.out 9).trans rfl; have hcz4_10 : w3.cell? ⟨gb309, 10, none⟩ = some (.slice A0_10 l0_10.length c0_10) := (blk_cell BK309.out 10).trans rfl; have hfz4_0 := blk_frozen BK309.out 0; have hfz4_1 := blk_frozen BK309.out 1; have hfz4_2 := blk_frozen BK309.out 2; have hfz4_3 := blk_frozen BK309.out 3; have hfz4_4 := blk_frozen BK309.out 4; have hfz4_5 := blk_frozen BK309.out 5; have hfz4_6 := blk_frozen BK309.out 6; have hfz4_7 := blk_frozen BK309.out 7; have hfz4_8 := blk_frozen BK309.out 8; have hfz4_9 := blk_frozen BK309.out 9; have hfz4_10 := blk_frozen BK309.out 10)))
  go_loopg [5, 6] k (fun kq v5 v6 w' => ∃ (x5_1 : Int) (x6_1 : Int), v5 = .int .i64 x5_1 ∧ v6 = .int .i64 x6_1 ∧ Aside0 (wharfref14_Weight.l0 kq a1 x5_1 x6_1 a0_0 a0_1 a0_2 a0_3 a0_4 a0_5 a0_6 a0_7 a0_8 l0_9 l0_10 = some r) ∧ Aside0 (kq ≤ k) ∧ Aside0 (w'.heap[gb309]? = some (.cells #[.int .i64 a0_0, .string a0_1, .string a0_2, .string a0_3, .int .i64 a0_4, .int .i64 a0_5, .int .i64 a0_6, .int .i64 a0_7, .bool a0_8, (.slice A0_9 l0_9.length c0_9), (.slice A0_10 l0_10.length c0_10)] 41 (0, 0))) ∧ Aside0 (Below w.heap.size w w'))
  case atStart => exact ⟨(wrap64 ((wrap64 ((wrap64 ((a0_1.size : Int) + (a0_2.size : Int))) + (a0_3.size : Int))) + (l0_10.length : Int))), (0), (by first | rfl | (simp; done) | (simp [*]; done)), (by first | rfl | (simp; done) | (simp [*]; done)), H', ⟨Nat.le_refl _⟩, ⟨by (with_reducible repeat (first | refine blk_drewN ?_ _ | refine blk_drew ?_ | refine blk_alloc ?_ _)); exact BK309.out⟩, ⟨by repeat (first | (with_reducible first | exact HB.out | apply below_alloc | apply pw_below_drewN | apply below_drew1 | refine below_set ?_ GE309.out) | exact HB.out)⟩⟩
  case round =>
    clear H'
    try clear p2
    try clear c3
    try clear hcz4_0
    try clear hcz4_1
    try clear hcz4_10
    try clear hcz4_2
    try clear hcz4_3
    try clear hcz4_4
    try clear hcz4_5
    try clear hcz4_6
    try clear hcz4_7
    try clear hcz4_8
    try clear hcz4_9
    try clear hfz4_0
    try clear hfz4_1
    try clear hfz4_10
    try clear hfz4_2
    try clear hfz4_3
    try clear hfz4_4
    try clear hfz4_5
    try clear hfz4_6
    try clear hfz4_7
    try clear hfz4_8
    try clear hfz4_9
    obtain ⟨x5_1, x6_1, rfl, rfl, HA, HK1, BK309, HB⟩ := hrel
    cases gk with
    | zero => exact absurd HA.out (by simp [wharfref14_Weight.l0])
    | succ k1 =>
      have H := HA.out
      clear HA
      simp only [wharfref14_Weight.l0] at H
      by_cases c5 : x6_1 < (l0_9.length : Int)
      · rw [if_pos c5] at H
        have c5b0 : decide (x6_1 < (l0_9.length : Int)) = true := decide_eq_true c5
        clear c5
        by_cases c6 : x5_1 ≤ a1
        · rw [if_pos c6] at H
          have c6b0 : decide (x5_1 ≤ a1) = true := decide_eq_true c6
          clear c6
          by_cases c7 : 0 ≤ x6_1
          · rw [if_pos c7] at H
            have c7b0 : decide (0 ≤ x6_1) = true := decide_eq_true c7
            clear c7
            have H' := Aside0.mk H
            clear H
            have hcz8_0 : wr.cell? ⟨gb309, 0, none⟩ = some (.int .i64 a0_0) := (blk_cell BK309.out 0).trans rfl
            have hcz8_1 : wr.cell? ⟨gb309, 1, none⟩ = some (.string a0_1) := (blk_cell BK309.out 1).trans rfl
            have hcz8_2 : wr.cell? ⟨gb309, 2, none⟩ = some (.string a0_2) := (blk_cell BK309.out 2).trans rfl
            have hcz8_3 : wr.cell? ⟨gb309, 3, none⟩ = some (.string a0_3) := (blk_cell BK309.out 3).trans rfl
            have hcz8_4 : wr.cell? ⟨gb309, 4, none⟩ = some (.int .i64 a0_4) := (blk_cell BK309.out 4).trans rfl
            have hcz8_5 : wr.cell? ⟨gb309, 5, none⟩ = some (.int .i64 a0_5) := (blk_cell BK309.out 5).trans rfl
            have hcz8_6 : wr.cell? ⟨gb309, 6, none⟩ = some (.int .i64 a0_6) := (blk_cell BK309.out 6).trans rfl
            have hcz8_7 : wr.cell? ⟨gb309, 7, none⟩ = some (.int .i64 a0_7) := (blk_cell BK309.out 7).trans rfl
            have hcz8_8 : wr.cell? ⟨gb309, 8, none⟩ = some (.bool a0_8) := (blk_cell BK309.out 8).trans rfl
            have hcz8_9 : wr.cell? ⟨gb309, 9, none⟩ = some (.slice A0_9 l0_9.length c0_9) := (blk_cell BK309.out 9).trans rfl
            have hcz8_10 : wr.cell? ⟨gb309, 10, none⟩ = some (.slice A0_10 l0_10.length c0_10) := (blk_cell BK309.out 10).trans rfl
            have hfz8_0 := blk_frozen BK309.out 0
            have hfz8_1 := blk_frozen BK309.out 1
            have hfz8_2 := blk_frozen BK309.out 2
            have hfz8_3 := blk_frozen BK309.out 3
            have hfz8_4 := blk_frozen BK309.out 4
            have hfz8_5 := blk_frozen BK309.out 5
            have hfz8_6 := blk_frozen BK309.out 6
            have hfz8_7 := blk_frozen BK309.out 7
            have hfz8_8 := blk_frozen BK309.out 8
            have hfz8_9 := blk_frozen BK309.out 9
            have hfz8_10 := blk_frozen BK309.out 10
            have p310 : 0 ≤ (x6_1 : Int) := of_decide_eq_true (by first | (with_reducible assumption) | assumption)
            have q310 : x6_1 < (l0_9.length : Int) := of_decide_eq_true (by first | (with_reducible assumption) | assumption)
            obtain ⟨ad310, e310, hx310_0, hx310_1, hx310_2, hx310_3, hx310_4, hx310_5⟩ := at_T69 HR0_9.out x6_1 p310 q310
            cases e310
            replace hx310_0 := (HB.out.cell (World.block_lt_of_cell? w _ hx310_0)).trans hx310_0
            replace hx310_1 := (HB.out.cell (World.block_lt_of_cell? w _ hx310_1)).trans hx310_1
            replace hx310_2 := (HB.out.cell (World.block_lt_of_cell? w _ hx310_2)).trans hx310_2
            replace hx310_3 := (HB.out.cell (World.block_lt_of_cell? w _ hx310_3)).trans hx310_3
            replace hx310_4 := (HB.out.cell (World.block_lt_of_cell? w _ hx310_4)).trans hx310_4
            replace hx310_5 := (HB.out.cell (World.block_lt_of_cell? w _ hx310_5)).trans hx310_5
            replace p310 := eq_true p310
            replace q310 := eq_true q310
            have p311 : 0 ≤ (x6_1 : Int) := of_decide_eq_true (by first | (with_reducible assumption) | assumption)
            have q311 : x6_1 < (l0_9.length : Int) := of_decide_eq_true (by first | (with_reducible assumption) | assumption)
            obtain ⟨ad311, e311, hx311_0, hx311_1, hx311_2, hx311_3, hx311_4, hx311_5⟩ := at_T69 HR0_9.out x6_1 p311 q311
            obtain rfl : ad310 = ad311 := (by injection e311)
            replace hx311_0 := (HB.out.cell (World.block_lt_of_cell? w _ hx311_0)).trans hx311_0
            replace hx311_1 := (HB.out.cell (World.block_lt_of_cell? w _ hx311_1)).trans hx311_1
            replace hx311_2 := (HB.out.cell (World.block_lt_of_cell? w _ hx311_2)).trans hx311_2
            replace hx311_3 := (HB.out.cell (World.block_lt_of_cell? w _ hx311_3)).trans hx311_3
            replace hx311_4 := (HB.out.cell (World.block_lt_of_cell? w _ hx311_4)).trans hx311_4
            replace hx311_5 := (HB.out.cell (World.block_lt_of_cell? w _ hx311_5)).trans hx311_5
            replace p311 := eq_true p311
            replace q311 := eq_true q311
            go_wp2
            repeat (go_quiet (fail); try go_wp2)
            go_roundg k1
            case measure => have := HK1.out; omega
            case rel => exact ⟨(wrap64 ((wrap64 ((wrap64 (x5_1 + 1)) + (((rd_T69 l0_9 x6_1).f0).size : Int))) + (((rd_T69 l0_9 x6_1).f4).size : Int))), (wrap64 (x6_1 + 1)), (by first | rfl | (simp; done) | (simp [*]; done)), (by first | rfl | (simp; done) | (simp [*]; done)), H', ⟨by have := HK1.out; omega⟩, ⟨by (with_reducible repeat (first | refine blk_drewN ?_ _ | refine blk_drew ?_ | refine blk_alloc ?_ _)); exact BK309.out⟩, ⟨by repeat (first | (with_reducible first | exact HB.out | apply below_alloc | apply pw_below_drewN | apply below_drew1 | refine below_set ?_ GE309.out) | exact HB.out)⟩⟩
          · rw [if_neg c7] at H
            exact absurd H (by simp)
        · rw [if_neg c6] at H
          have c6b0 : decide (x5_1 ≤ a1) = false := decide_eq_false c6
          clear c6
          obtain rfl := Option.some.inj H
          have hcz9_0 : wr.cell? ⟨gb309, 0, none⟩ = some (.int .i64 a0_0) := (blk_cell BK309.out 0).trans rfl
          have hcz9_1 : wr.cell? ⟨gb309, 1, none⟩ = some (.string a0_1) := (blk_cell BK309.out 1).trans rfl
          have hcz9_2 : wr.cell? ⟨gb309, 2, none⟩ = some (.string a0_2) := (blk_cell BK309.out 2).trans rfl
          have hcz9_3 : wr.cell? ⟨gb309, 3, none⟩ = some (.string a0_3) := (blk_cell BK309.out 3).trans rfl
          have hcz9_4 : wr.cell? ⟨gb309, 4, none⟩ = some (.int .i64 a0_4) := (blk_cell BK309.out 4).trans rfl
          have hcz9_5 : wr.cell? ⟨gb309, 5, none⟩ = some (.int .i64 a0_5) := (blk_cell BK309.out 5).trans rfl
          have hcz9_6 : wr.cell? ⟨gb309, 6, none⟩ = some (.int .i64 a0_6) := (blk_cell BK309.out 6).trans rfl
          have hcz9_7 : wr.cell? ⟨gb309, 7, none⟩ = some (.int .i64 a0_7) := (blk_cell BK309.out 7).trans rfl
          have hcz9_8 : wr.cell? ⟨gb309, 8, none⟩ = some (.bool a0_8) := (blk_cell BK309.out 8).trans rfl
          have hcz9_9 : wr.cell? ⟨gb309, 9, none⟩ = some (.slice A0_9 l0_9.length c0_9) := (blk_cell BK309.out 9).trans rfl
          have hcz9_10 : wr.cell? ⟨gb309, 10, none⟩ = some (.slice A0_10 l0_10.length c0_10) := (blk_cell BK309.out 10).trans rfl
          have hfz9_0 := blk_frozen BK309.out 0
          have hfz9_1 := blk_frozen BK309.out 1
          have hfz9_2 := blk_frozen BK309.out 2
          have hfz9_3 := blk_frozen BK309.out 3
          have hfz9_4 := blk_frozen BK309.out 4
          have hfz9_5 := blk_frozen BK309.out 5
          have hfz9_6 := blk_frozen BK309.out 6
          have hfz9_7 := blk_frozen BK309.out 7
          have hfz9_8 := blk_frozen BK309.out 8
          have hfz9_9 := blk_frozen BK309.out 9
          have hfz9_10 := blk_frozen BK309.out 10
          go_wp2
          repeat (go_quiet (fail); try go_wp2)
          go_ret
          exact ⟨by first | rfl | (simp [errW_none, errW_some] <;> rfl) | (simp [*, errW_none, errW_some] <;> rfl), by repeat (first | (with_reducible first | exact HB.out | apply below_alloc | apply pw_below_drewN | apply below_drew1 | refine below_set ?_ GE309.out) | exact HB.out)⟩
      · rw [if_neg c5] at H
        have c5b0 : decide (x6_1 < (l0_9.length : Int)) = false := decide_eq_false c5
        clear c5
        obtain rfl := Option.some.inj H
        have hcz10_0 : wr.cell? ⟨gb309, 0, none⟩ = some (.int .i64 a0_0) := (blk_cell BK309.out 0).trans rfl
        have hcz10_1 : wr.cell? ⟨gb309, 1, none⟩ = some (.string a0_1) := (blk_cell BK309.out 1).trans rfl
        have hcz10_2 : wr.cell? ⟨gb309, 2, none⟩ = some (.string a0_2) := (blk_cell BK309.out 2).trans rfl
        have hcz10_3 : wr.cell? ⟨gb309, 3, none⟩ = some (.string a0_3) := (blk_cell BK309.out 3).trans rfl
        have hcz10_4 : wr.cell? ⟨gb309, 4, none⟩ = some (.int .i64 a0_4) := (blk_cell BK309.out 4).trans rfl
        have hcz10_5 : wr.cell? ⟨gb309, 5, none⟩ = some (.int .i64 a0_5) := (blk_cell BK309.out 5).trans rfl
        have hcz10_6 : wr.cell? ⟨gb309, 6, none⟩ = some (.int .i64 a0_6) := (blk_cell BK309.out 6).trans rfl
        have hcz10_7 : wr.cell? ⟨gb309, 7, none⟩ = some (.int .i64 a0_7) := (blk_cell BK309.out 7).trans rfl
        have hcz10_8 : wr.cell? ⟨gb309, 8, none⟩ = some (.bool a0_8) := (blk_cell BK309.out 8).trans rfl
        have hcz10_9 : wr.cell? ⟨gb309, 9, none⟩ = some (.slice A0_9 l0_9.length c0_9) := (blk_cell BK309.out 9).trans rfl
        have hcz10_10 : wr.cell? ⟨gb309, 10, none⟩ = some (.slice A0_10 l0_10.length c0_10) := (blk_cell BK309.out 10).trans rfl
        have hfz10_0 := blk_frozen BK309.out 0
        have hfz10_1 := blk_frozen BK309.out 1
        have hfz10_2 := blk_frozen BK309.out 2
        have hfz10_3 := blk_frozen BK309.out 3
        have hfz10_4 := blk_frozen BK309.out 4
        have hfz10_5 := blk_frozen BK309.out 5
        have hfz10_6 := blk_frozen BK309.out 6
        have hfz10_7 := blk_frozen BK309.out 7
        have hfz10_8 := blk_frozen BK309.out 8
        have hfz10_9 := blk_frozen BK309.out 9
        have hfz10_10 := blk_frozen BK309.out 10
        go_wp2
        repeat (go_quiet (fail); try go_wp2)
        go_ret
        exact ⟨by first | rfl | (simp [errW_none, errW_some] <;> rfl) | (simp [*, errW_none, errW_some] <;> rfl), by repeat (first | (with_reducible first | exact HB.out | apply below_alloc | apply pw_below_drewN | apply below_drew1 | refine below_set ?_ GE309.out) | exact HB.out)⟩

end Go.Proofs.Ytbeclnffcapfpaa.H
