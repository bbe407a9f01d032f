-- written by hp.py for this claim, out of the kit's printer and texts of my own
import Derived.Test.YtbeclnffcapfpaaHx0
import Derived.Test.YtbeclnffcapfpaaHx36
namespace Go.Proofs.Ytbeclnffcapfpaa.H
open Go.RowKit Go.Proofs.YtbeclnffcapfpaaW.PrintWords Go.Proofs.YtbeclnffcapfpaaW.PrintLast Go.Proofs.YtbeclnffcapfpaaW.PrintMore
attribute [local go_sem] max2_int min2_int max_two min_two max_three min_three max_four min_four   -- for this text's walks alone
set_option linter.unusedVariables false
set_option linter.unusedSimpArgs false

/-! ### wharfref14_List: function 27 -/
def wharfref14_List.l0 : Nat → List (S41) → List (S41) → Int → Option (Bool)
  | 0, _, _, _ => none
  | k + 1, x0, x1, x5 => if x5 < (x0.length : Int) then (if 0 ≤ x5 then (if x5 < (x1.length : Int) then ((wharfref14_Same.f k ((rd_T41 x0 x5).f0) ((rd_T41 x0 x5).f1) ((rd_T41 x0 x5).f2) ((rd_T41 x0 x5).f3) ((rd_T41 x0 x5).f4) ((rd_T41 x0 x5).f5) ((rd_T41 x0 x5).f6) ((rd_T41 x0 x5).f7) ((rd_T41 x0 x5).f8) ((rd_T41 x0 x5).f9) ((rd_T41 x0 x5).f10) ((rd_T41 x1 x5).f0) ((rd_T41 x1 x5).f1) ((rd_T41 x1 x5).f2) ((rd_T41 x1 x5).f3) ((rd_T41 x1 x5).f4) ((rd_T41 x1 x5).f5) ((rd_T41 x1 x5).f6) ((rd_T41 x1 x5).f7) ((rd_T41 x1 x5).f8) ((rd_T41 x1 x5).f9) ((rd_T41 x1 x5).f10)).bind fun t363 => (if t363 = true then (wharfref14_List.l0 k x0 x1 (wrap64 (x5 + 1))) else (some false))) else (none)) else (none)) else (some true)
def wharfref14_List.f (k : Nat) (l0 : List (S41)) (l1 : List (S41)) : Option (Bool) := if (l0.length : Int) = (l1.length : Int) then (wharfref14_List.l0 k l0 l1 0) else (some false)
theorem wharfref14_List.mono_l : ∀ k, (∀ y0 y1 y2, LeO (wharfref14_List.l0 k y0 y1 y2) (wharfref14_List.l0 (k + 1) y0 y1 y2))
  | 0 => fun _ _ _ r h => by simp [wharfref14_List.l0] at h
  | k + 1 => by
    have ih0 := wharfref14_List.mono_l k
    · intro y0 y1 y2
      unfold wharfref14_List.l0
      repeat' first
      | (with_reducible exact ih0 _ _ _)
      | (with_reducible exact wharfref14_Same.mono _ _ _ _ _ _ _ _ _ _ _ _ _ _ _ _ _ _ _ _ _ _ _)
      | (with_reducible exact LeO.refl _)
      | (with_reducible exact LeO.none _)
      | (with_reducible refine LeO.ite ?_ ?_)
      | (with_reducible refine LeO.bind ?_ (fun _ => ?_))
      | exact ih0 _ _ _
      | exact wharfref14_Same.mono _ _ _ _ _ _ _ _ _ _ _ _ _ _ _ _ _ _ _ _ _ _ _
      | exact LeO.none _
      | refine LeO.ite ?_ ?_
      | refine LeO.bind ?_ (fun _ => ?_)
theorem wharfref14_List.mono : ∀ a0 a1 k, LeO (wharfref14_List.f k a0 a1) (wharfref14_List.f (k + 1) a0 a1) := by
  intro a0 a1 k
  have ih0 := wharfref14_List.mono_l k
  unfold wharfref14_List.f
  repeat' first
      | (with_reducible exact ih0 _ _ _)
      | (with_reducible exact wharfref14_Same.mono _ _ _ _ _ _ _ _ _ _ _ _ _ _ _ _ _ _ _ _ _ _ _)
      | (with_reducible exact LeO.refl _)
      | (with_reducible exact LeO.none _)
      | (with_reducible refine LeO.ite ?_ ?_)
      | (with_reducible refine LeO.bind ?_ (fun _ => ?_))
      | exact ih0 _ _ _
      | exact wharfref14_Same.mono _ _ _ _ _ _ _ _ _ _ _ _ _ _ _ _ _ _ _ _ _ _ _
      | exact LeO.none _
      | refine LeO.ite ?_ ?_
      | refine LeO.bind ?_ (fun _ => ?_)
def wharfref14_List.T6 : Bool × List (List Nat × List Nat) := (true, [([], []), ([], []), ([0, 1], [0, 1]), ([2], [2]), ([], []), ([], []), ([4, 5], [4, 5]), ([6], [6]), ([3, 7], [3, 7]), ([8], [8])])
def wharfref14_List.B6 : List Nat := [0, 0, 3, 7, 0, 0, 48, 112, 255, 511]
theorem wharfref14_List.tab6 : rtab .any (opsOf Try.f27 6) = wharfref14_List.T6 := by kernel_rfl
theorem wharfref14_List.bits6 : waitsOk wharfref14_List.T6.2 wharfref14_List.B6 = true := by kernel_rfl
set_option maxHeartbeats 8000000 in
set_option maxRecDepth 100000 in
theorem wharfref14_List.calls (k : Nat) (A0 : Option Addr) (c0 : Nat) (l0 : List (S41)) (A1 : Option Addr) (c1 : Nat) (l1 : List (S41)) (r : Bool) (w : World) (hr0 : Kd.C k41 w A0 l0.length l0) (hc0 : l0.length ≤ c0) (hr1 : Kd.C k41 w A1 l1.length l1) (hc1 : l1.length ≤ c1) (h : wharfref14_List.f k l0 l1 = some r) :
    Calls Try.prog 27 #[.slice A0 l0.length c0, .slice A1 l1.length c1] w fun e w' => e = .returned (.bool r) ∧ Below w.heap.size w w' := by
  have hu41 := Try.underlying41
  have HR0 := Aside0.mk hr0
  have HC0 := Aside0.mk hc0
  clear hr0 hc0
  have HR1 := Aside0.mk hr1
  have HC1 := Aside0.mk hc1
  clear hr1 hc1
  have HB := Aside0.mk (Below.refl w.heap.size w)
  have H : (if (l0.length : Int) = (l1.length : Int) then (wharfref14_List.l0 k l0 l1 0) else (some false)) = some r := h
  clear h
  by_cases c3 : (l0.length : Int) = (l1.length : Int)
  · rw [if_pos c3] at H
    have c3b0 : ((l0.length : Int) == (l1.length : Int)) = true := beq_iff_eq.mpr c3
    have c3b1 : ((l0.length : Int) != (l1.length : Int)) = false := bne_eq_false_iff_eq.mpr c3
    have c3b2 : (l0.length == l1.length) = true := by first | simpa using c3 | (simp at c3 ⊢; omega)
    clear c3
    have H' := Aside0.mk H
    clear H
    go_enter Try.func27, Try.ntmps27
    go_wp2
    go_loopg [5] k (fun kq v5 w' => ∃ (x5_1 : Int), v5 = .int .i64 x5_1 ∧ Aside0 (wharfref14_List.l0 kq l0 l1 x5_1 = some r) ∧ Aside0 (kq ≤ k) ∧ Aside0 (Below w.heap.size w w'))
    case atStart => exact ⟨(0), (by first | rfl | (simp; done) | (simp [*]; done)), H', ⟨Nat.le_refl _⟩, ⟨by repeat (first | (with_reducible first | exact HB.out | apply below_alloc | apply pw_below_drewN | apply below_drew1) | exact HB.out)⟩⟩
    case round =>
      clear H'
      try clear c1
      try clear c2
      try clear p2
      try clear c3
      try clear c3b0
      try clear c3b1
      try clear c3b2
      obtain ⟨x5_1, rfl, HA, HK1, HB⟩ := hrel
      cases gk with
      | zero => exact absurd HA.out (by simp [wharfref14_List.l0])
      | succ k1 =>
        have H := HA.out
        clear HA
        simp only [wharfref14_List.l0] at H
        by_cases c4 : x5_1 < (l0.length : Int)
        · rw [if_pos c4] at H
          have c4b0 : decide (x5_1 < (l0.length : Int)) = true := decide_eq_true c4
          clear c4
          by_cases c5 : 0 ≤ x5_1
          · rw [if_pos c5] at H
            have c5b0 : decide (0 ≤ x5_1) = true := decide_eq_true c5
            clear c5
            by_cases c6 : x5_1 < (l1.length : Int)
            · rw [if_pos c6] at H
              have c6b0 : decide (x5_1 < (l1.length : Int)) = true := decide_eq_true c6
              clear c6
              replace H := Option.bind_eq_some_iff.mp H
              obtain ⟨t363, A70, H⟩ := H
              replace H : (if t363 = true then (wharfref14_List.l0 k1 l0 l1 (wrap64 (x5_1 + 1))) else (some false)) = some r := H
              have A7 := Aside0.mk A70
              clear A70
              by_cases c8 : t363 = true
              · subst c8
                have H1 : (wharfref14_List.l0 k1 l0 l1 (wrap64 (x5_1 + 1))) = some r := by rw [if_pos rfl] at H; exact H
                clear H
                have H := H1
                clear H1
                have H' := Aside0.mk H
                clear H
                try go_wp2
                have n0_ := Aside0.mk (below_drew1 HB.out)
                clear HB
                have HB := n0_
                clear n0_
                have p361 : 0 ≤ (x5_1 : Int) := of_decide_eq_true (by first | (with_reducible assumption) | assumption)
                have q361 : x5_1 < (l0.length : Int) := of_decide_eq_true (by first | (with_reducible assumption) | assumption)
                obtain ⟨ad361, A361_9, c361_9, A361_10, c361_10, e361, hx361_0, hx361_1, hx361_2, hx361_3, hx361_4, hx361_5, hx361_6, hx361_7, hx361_8, hx361_9, hx361_10, hl361_9, hi361_9, hl361_10, hi361_10⟩ := at_T41 HR0.out x5_1 p361 q361
                have hw361_10 := hx361_10
                have hw361_9 := hx361_9
                have hw361_8 := hx361_8
                have hw361_7 := hx361_7
                have hw361_6 := hx361_6
                have hw361_5 := hx361_5
                have hw361_4 := hx361_4
                have hw361_3 := hx361_3
                have hw361_2 := hx361_2
                have hw361_1 := hx361_1
                have hw361_0 := hx361_0
                cases e361
                replace hx361_0 := (HB.out.cell (World.block_lt_of_cell? w _ hx361_0)).trans hx361_0
                replace hx361_1 := (HB.out.cell (World.block_lt_of_cell? w _ hx361_1)).trans hx361_1
                replace hx361_2 := (HB.out.cell (World.block_lt_of_cell? w _ hx361_2)).trans hx361_2
                replace hx361_3 := (HB.out.cell (World.block_lt_of_cell? w _ hx361_3)).trans hx361_3
                replace hx361_4 := (HB.out.cell (World.block_lt_of_cell? w _ hx361_4)).trans hx361_4
                replace hx361_5 := (HB.out.cell (World.block_lt_of_cell? w _ hx361_5)).trans hx361_5
                replace hx361_6 := (HB.out.cell (World.block_lt_of_cell? w _ hx361_6)).trans hx361_6
                replace hx361_7 := (HB.out.cell (World.block_lt_of_cell? w _ hx361_7)).trans hx361_7
                replace hx361_8 := (HB.out.cell (World.block_lt_of_cell? w _ hx361_8)).trans hx361_8
                replace hx361_9 := (HB.out.cell (World.block_lt_of_cell? w _ hx361_9)).trans hx361_9
                replace hx361_10 := (HB.out.cell (World.block_lt_of_cell? w _ hx361_10)).trans hx361_10
                have HR361_9 := Aside0.mk hi361_9
                have HC361_9 := Aside0.mk hl361_9
                clear hi361_9 hl361_9
                have HR361_10 := Aside0.mk hi361_10
                have HC361_10 := Aside0.mk hl361_10
                clear hi361_10 hl361_10
                replace p361 := eq_true p361
                replace q361 := eq_true q361
                have p362 : 0 ≤ (x5_1 : Int) := of_decide_eq_true (by first | (with_reducible assumption) | assumption)
                have q362 : x5_1 < (l1.length : Int) := of_decide_eq_true (by first | (with_reducible assumption) | assumption)
                obtain ⟨ad362, A362_9, c362_9, A362_10, c362_10, e362, hx362_0, hx362_1, hx362_2, hx362_3, hx362_4, hx362_5, hx362_6, hx362_7, hx362_8, hx362_9, hx362_10, hl362_9, hi362_9, hl362_10, hi362_10⟩ := at_T41 HR1.out x5_1 p362 q362
                have hw362_10 := hx362_10
                have hw362_9 := hx362_9
                have hw362_8 := hx362_8
                have hw362_7 := hx362_7
                have hw362_6 := hx362_6
                have hw362_5 := hx362_5
                have hw362_4 := hx362_4
                have hw362_3 := hx362_3
                have hw362_2 := hx362_2
                have hw362_1 := hx362_1
                have hw362_0 := hx362_0
                cases e362
                replace hx362_0 := (HB.out.cell (World.block_lt_of_cell? w _ hx362_0)).trans hx362_0
                replace hx362_1 := (HB.out.cell (World.block_lt_of_cell? w _ hx362_1)).trans hx362_1
                replace hx362_2 := (HB.out.cell (World.block_lt_of_cell? w _ hx362_2)).trans hx362_2
                replace hx362_3 := (HB.out.cell (World.block_lt_of_cell? w _ hx362_3)).trans hx362_3
                replace hx362_4 := (HB.out.cell (World.block_lt_of_cell? w _ hx362_4)).trans hx362_4
                replace hx362_5 := (HB.out.cell (World.block_lt_of_cell? w _ hx362_5)).trans hx362_5
                replace hx362_6 := (HB.out.cell (World.block_lt_of_cell? w _ hx362_6)).trans hx362_6
                replace hx362_7 := (HB.out.cell (World.block_lt_of_cell? w _ hx362_7)).trans hx362_7
                replace hx362_8 := (HB.out.cell (World.block_lt_of_cell? w _ hx362_8)).trans hx362_8
                replace hx362_9 := (HB.out.cell (World.block_lt_of_cell? w _ hx362_9)).trans hx362_9
                replace hx362_10 := (HB.out.cell (World.block_lt_of_cell? w _ hx362_10)).trans hx362_10
                have HR362_9 := Aside0.mk hi362_9
                have HC362_9 := Aside0.mk hl362_9
                clear hi362_9 hl362_9
                have HR362_10 := Aside0.mk hi362_10
                have HC362_10 := Aside0.mk hl362_10
                clear hi362_10 hl362_10
                replace p362 := eq_true p362
                replace q362 := eq_true q362
                refine start_ (n := 10) (S := fun w' => w'.cell? (ad361.add ((x5_1).toNat * 11)) = some (.int .i64 ((rd_T41 l0 x5_1).f0)) ∧ w'.cell? ⟨(ad361.add ((x5_1).toNat * 11)).block, (ad361.add ((x5_1).toNat * 11)).off + 1, none⟩ = some (.string ((rd_T41 l0 x5_1).f1)) ∧ w'.cell? ⟨(ad361.add ((x5_1).toNat * 11)).block, (ad361.add ((x5_1).toNat * 11)).off + 2, none⟩ = some (.string ((rd_T41 l0 x5_1).f2)) ∧ w'.cell? ⟨(ad361.add ((x5_1).toNat * 11)).block, (ad361.add ((x5_1).toNat * 11)).off + 3, none⟩ = some (.string ((rd_T41 l0 x5_1).f3)) ∧ w'.cell? ⟨(ad361.add ((x5_1).toNat * 11)).block, (ad361.add ((x5_1).toNat * 11)).off + 4, none⟩ = some (.int .i64 ((rd_T41 l0 x5_1).f4)) ∧ w'.cell? ⟨(ad361.add ((x5_1).toNat * 11)).block, (ad361.add ((x5_1).toNat * 11)).off + 5, none⟩ = some (.int .i64 ((rd_T41 l0 x5_1).f5)) ∧ w'.cell? ⟨(ad361.add ((x5_1).toNat * 11)).block, (ad361.add ((x5_1).toNat * 11)).off + 6, none⟩ = some (.int .i64 ((rd_T41 l0 x5_1).f6)) ∧ w'.cell? ⟨(ad361.add ((x5_1).toNat * 11)).block, (ad361.add ((x5_1).toNat * 11)).off + 7, none⟩ = some (.int .i64 ((rd_T41 l0 x5_1).f7)) ∧ w'.cell? ⟨(ad361.add ((x5_1).toNat * 11)).block, (ad361.add ((x5_1).toNat * 11)).off + 8, none⟩ = some (.bool ((rd_T41 l0 x5_1).f8)) ∧ w'.cell? ⟨(ad361.add ((x5_1).toNat * 11)).block, (ad361.add ((x5_1).toNat * 11)).off + 9, none⟩ = some (.slice A361_9 ((rd_T41 l0 x5_1).f9).length c361_9) ∧ w'.cell? ⟨(ad361.add ((x5_1).toNat * 11)).block, (ad361.add ((x5_1).toNat * 11)).off + 10, none⟩ = some (.slice A361_10 ((rd_T41 l0 x5_1).f10).length c361_10) ∧ w'.cell? (ad362.add ((x5_1).toNat * 11)) = some (.int .i64 ((rd_T41 l1 x5_1).f0)) ∧ w'.cell? ⟨(ad362.add ((x5_1).toNat * 11)).block, (ad362.add ((x5_1).toNat * 11)).off + 1, none⟩ = some (.string ((rd_T41 l1 x5_1).f1)) ∧ w'.cell? ⟨(ad362.add ((x5_1).toNat * 11)).block, (ad362.add ((x5_1).toNat * 11)).off + 2, none⟩ = some (.string ((rd_T41 l1 x5_1).f2)) ∧ w'.cell? ⟨(ad362.add ((x5_1).toNat * 11)).block, (ad362.add ((x5_1).toNat * 11)).off + 3, none⟩ = some (.string ((rd_T41 l1 x5_1).f3)) ∧ w'.cell? ⟨(ad362.add ((x5_1).toNat * 11)).block, (ad362.add ((x5_1).toNat * 11)).off + 4, none⟩ = some (.int .i64 ((rd_T41 l1 x5_1).f4)) ∧ w'.cell? ⟨(ad362.add ((x5_1).toNat * 11)).block, (ad362.add ((x5_1).toNat * 11)).off + 5, none⟩ = some (.int .i64 ((rd_T41 l1 x5_1).f5)) ∧ w'.cell? ⟨(ad362.add ((x5_1).toNat * 11)).block, (ad362.add ((x5_1).toNat * 11)).off + 6, none⟩ = some (.int .i64 ((rd_T41 l1 x5_1).f6)) ∧ w'.cell? ⟨(ad362.add ((x5_1).toNat * 11)).block, (ad362.add ((x5_1).toNat * 11)).off + 7, none⟩ = some (.int .i64 ((rd_T41 l1 x5_1).f7)) ∧ w'.cell? ⟨(ad362.add ((x5_1).toNat * 11)).block, (ad362.add ((x5_1).toNat * 11)).off + 8, none⟩ = some (.bool ((rd_T41 l1 x5_1).f8)) ∧ w'.cell? ⟨(ad362.add ((x5_1).toNat * 11)).block, (ad362.add ((x5_1).toNat * 11)).off + 9, none⟩ = some (.slice A362_9 ((rd_T41 l1 x5_1).f9).length c362_9) ∧ w'.cell? ⟨(ad362.add ((x5_1).toNat * 11)).block, (ad362.add ((x5_1).toNat * 11)).off + 10, none⟩ = some (.slice A362_10 ((rd_T41 l1 x5_1).f10).length c362_10)) (ds := []) #[false, false, false, false, false, false, false, false, false, false] (by kernel_rfl) rfl rfl ⟨((HB.out.cell (World.block_lt_of_cell? w _ hw361_0)).trans hw361_0), ((HB.out.cell (World.block_lt_of_cell? w _ hw361_1)).trans hw361_1), ((HB.out.cell (World.block_lt_of_cell? w _ hw361_2)).trans hw361_2), ((HB.out.cell (World.block_lt_of_cell? w _ hw361_3)).trans hw361_3), ((HB.out.cell (World.block_lt_of_cell? w _ hw361_4)).trans hw361_4), ((HB.out.cell (World.block_lt_of_cell? w _ hw361_5)).trans hw361_5), ((HB.out.cell (World.block_lt_of_cell? w _ hw361_6)).trans hw361_6), ((HB.out.cell (World.block_lt_of_cell? w _ hw361_7)).trans hw361_7), ((HB.out.cell (World.block_lt_of_cell? w _ hw361_8)).trans hw361_8), ((HB.out.cell (World.block_lt_of_cell? w _ hw361_9)).trans hw361_9), ((HB.out.cell (World.block_lt_of_cell? w _ hw361_10)).trans hw361_10), ((HB.out.cell (World.block_lt_of_cell? w _ hw362_0)).trans hw362_0), ((HB.out.cell (World.block_lt_of_cell? w _ hw362_1)).trans hw362_1), ((HB.out.cell (World.block_lt_of_cell? w _ hw362_2)).trans hw362_2), ((HB.out.cell (World.block_lt_of_cell? w _ hw362_3)).trans hw362_3), ((HB.out.cell (World.block_lt_of_cell? w _ hw362_4)).trans hw362_4), ((HB.out.cell (World.block_lt_of_cell? w _ hw362_5)).trans hw362_5), ((HB.out.cell (World.block_lt_of_cell? w _ hw362_6)).trans hw362_6), ((HB.out.cell (World.block_lt_of_cell? w _ hw362_7)).trans hw362_7), ((HB.out.cell (World.block_lt_of_cell? w _ hw362_8)).trans hw362_8), ((HB.out.cell (World.block_lt_of_cell? w _ hw362_9)).trans hw362_9), ((HB.out.cell (World.block_lt_of_cell? w _ hw362_10)).trans hw362_10)⟩ (fun hHeld => ?_); refine with_tabW wharfref14_List.tab6 wharfref14_List.bits6 (fun HT_ HW_ => ?_)
                generalize wr.drew = w9 at HB HR361_10 HR361_9 HR362_10 HR362_9 hx361_0 hx361_1 hx361_10 hx361_2 hx361_3 hx361_4 hx361_5 hx361_6 hx361_7 hx361_8 hx361_9 hx362_0 hx362_1 hx362_10 hx362_2 hx362_3 hx362_4 hx362_5 hx362_6 hx362_7 hx362_8 hx362_9 hHeld ⊢
                refine pure_ (i := 0) (N := some 17) (v := ?_) (a' := ?_) #[true, false, false, false, false, false, false, false, false, false] rfl rfl (any_of HT_.out (by kernel_rfl)) (fun _ _ _ h => h) (Or.inl ⟨by rfl, ?_⟩) ?_ ?_
                rotate_left
                · intro w'
                  go_simp
                  with_reducible rfl
                rotate_left
                · simp only [Act.put, List.setIfInBounds_toArray, List.set_cons_zero, List.set_cons_succ, i64_w, i32_w]
                  rfl
                refine pure_ (i := 1) (N := some 18) (v := ?_) (a' := ?_) #[true, true, false, false, false, false, false, false, false, false] rfl rfl (any_of HT_.out (by kernel_rfl)) (fun _ _ _ h => h) (Or.inl ⟨by rfl, ?_⟩) ?_ ?_
                rotate_left
                · intro w'
                  go_simp
                  with_reducible rfl
                rotate_left
                · simp only [Act.put, List.setIfInBounds_toArray, List.set_cons_zero, List.set_cons_succ, i64_w, i32_w]
                  rfl
                refine pure_ (i := 2) (N := some 19) (v := ?_) (a' := ?_) #[true, true, true, false, false, false, false, false, false, false] rfl rfl (any_of HT_.out (by kernel_rfl)) (fun _ _ _ h => h) (Or.inl ⟨by rfl, ?_⟩) ?_ ?_
                rotate_left
                · intro w'
                  go_simp
                  with_reducible rfl
                rotate_left
                · simp only [Act.put, List.setIfInBounds_toArray, List.set_cons_zero, List.set_cons_succ, i64_w, i32_w]
                  rfl
                refine pure_ (i := 4) (N := some 21) (v := ?_) (a' := ?_) #[true, true, true, false, true, false, false, false, false, false] rfl rfl (any_of HT_.out (by kernel_rfl)) (fun _ _ _ h => h) (Or.inl ⟨by rfl, ?_⟩) ?_ ?_
                rotate_left
                · intro w'
                  go_simp
                  with_reducible rfl
                rotate_left
                · simp only [Act.put, List.setIfInBounds_toArray, List.set_cons_zero, List.set_cons_succ, i64_w, i32_w]
                  rfl
                refine pure_ (i := 5) (N := some 22) (v := ?_) (a' := ?_) #[true, true, true, false, true, true, false, false, false, false] rfl rfl (any_of HT_.out (by kernel_rfl)) (fun _ _ _ h => h) (Or.inl ⟨by rfl, ?_⟩) ?_ ?_
                rotate_left
                · intro w'
                  go_simp
                  with_reducible rfl
                rotate_left
                · simp only [Act.put, List.setIfInBounds_toArray, List.set_cons_zero, List.set_cons_succ, i64_w, i32_w]
                  rfl
                refine pure_ (i := 6) (N := some 23) (v := ?_) (a' := ?_) #[true, true, true, false, true, true, true, false, false, false] rfl rfl (any_of HT_.out (by kernel_rfl)) (fun _ _ _ h => h) (Or.inl ⟨by rfl, ?_⟩) ?_ ?_
                rotate_left
                · intro w'
                  go_simp
                  with_reducible rfl
                rotate_left
                · simp only [Act.put, List.setIfInBounds_toArray, List.set_cons_zero, List.set_cons_succ, i64_w, i32_w]
                  rfl
                refine take_ (i := 3) (N := some 20) (v := ?_) (a' := ?_) #[true, true, true, true, true, true, true, false, false, false] rfl rfl (take_ofW HT_.out HW_.out (by kernel_rfl)) (fun _ _ _ h => h) (Or.inl ⟨by rfl, ?_⟩) hHeld ?_ ?_
                rotate_left
                · rintro w' ⟨s0, s1, s2, s3, s4, s5, s6, s7, s8, s9, s10, s11, s12, s13, s14, s15, s16, s17, s18, s19, s20, s21⟩
                  go_simp
                  with_reducible rfl
                rotate_left
                · simp only [Act.put, List.setIfInBounds_toArray, List.set_cons_zero, List.set_cons_succ, i64_w, i32_w]
                  rfl
                refine take_ (i := 7) (N := some 24) (v := ?_) (a' := ?_) #[true, true, true, true, true, true, true, true, false, false] rfl rfl (take_ofW HT_.out HW_.out (by kernel_rfl)) (fun _ _ _ h => h) (Or.inl ⟨by rfl, ?_⟩) hHeld ?_ ?_
                rotate_left
                · rintro w' ⟨s0, s1, s2, s3, s4, s5, s6, s7, s8, s9, s10, s11, s12, s13, s14, s15, s16, s17, s18, s19, s20, s21⟩
                  go_simp
                  with_reducible rfl
                rotate_left
                · simp only [Act.put, List.setIfInBounds_toArray, List.set_cons_zero, List.set_cons_succ, i64_w, i32_w]
                  rfl
                refine one_ (i := 8) (N := some 25) #[true, true, true, true, true, true, true, true, true, false] rfl rfl (one_of HT_.out (by kernel_rfl)) (by decide) (fun K hK => ?_)
                refine goes_ Try.func36 (by kernel_rfl) rfl #[.agg #[.int .i64 ((rd_T41 l0 x5_1).f0), .string ((rd_T41 l0 x5_1).f1), .string ((rd_T41 l0 x5_1).f2), .string ((rd_T41 l0 x5_1).f3), .int .i64 ((rd_T41 l0 x5_1).f4), .int .i64 ((rd_T41 l0 x5_1).f5), .int .i64 ((rd_T41 l0 x5_1).f6), .int .i64 ((rd_T41 l0 x5_1).f7), .bool ((rd_T41 l0 x5_1).f8), .slice A361_9 ((rd_T41 l0 x5_1).f9).length c361_9, .slice A361_10 ((rd_T41 l0 x5_1).f10).length c361_10], .agg #[.int .i64 ((rd_T41 l1 x5_1).f0), .string ((rd_T41 l1 x5_1).f1), .string ((rd_T41 l1 x5_1).f2), .string ((rd_T41 l1 x5_1).f3), .int .i64 ((rd_T41 l1 x5_1).f4), .int .i64 ((rd_T41 l1 x5_1).f5), .int .i64 ((rd_T41 l1 x5_1).f6), .int .i64 ((rd_T41 l1 x5_1).f7), .bool ((rd_T41 l1 x5_1).f8), .slice A362_9 ((rd_T41 l1 x5_1).f9).length c362_9, .slice A362_10 ((rd_T41 l1 x5_1).f10).length c362_10]] (by rfl) rfl rfl (by (try simp only [List.map_toArray, List.map_cons, List.map_nil]); first | done | rfl | (simp only [List.length_drop, List.length_take]; rfl)) ?_
                with_reducible refine (wharfref14_Same.calls k1 ((rd_T41 l0 x5_1).f0) ((rd_T41 l0 x5_1).f1) ((rd_T41 l0 x5_1).f2) ((rd_T41 l0 x5_1).f3) ((rd_T41 l0 x5_1).f4) ((rd_T41 l0 x5_1).f5) ((rd_T41 l0 x5_1).f6) ((rd_T41 l0 x5_1).f7) ((rd_T41 l0 x5_1).f8) _ _ ((rd_T41 l0 x5_1).f9) _ _ ((rd_T41 l0 x5_1).f10) ((rd_T41 l1 x5_1).f0) ((rd_T41 l1 x5_1).f1) ((rd_T41 l1 x5_1).f2) ((rd_T41 l1 x5_1).f3) ((rd_T41 l1 x5_1).f4) ((rd_T41 l1 x5_1).f5) ((rd_T41 l1 x5_1).f6) ((rd_T41 l1 x5_1).f7) ((rd_T41 l1 x5_1).f8) _ _ ((rd_T41 l1 x5_1).f9) _ _ ((rd_T41 l1 x5_1).f10) true _ ?side1 ?side2 ?side3 ?side4 ?side5 ?side6 ?side7 ?side8 A7.out).mono ?_
                (case side1 => repeat (first | exact (Kd.C_below HR361_9.out HB.out) | (with_reducible refine Kd.C_alloc ?_ _) | (with_reducible refine Kd.C_drewN ?_ _) | (with_reducible refine Kd.C_drew ?_)))
                (case side2 => exact HC361_9.out)
                (case side3 => repeat (first | exact (Kd.C_below HR361_10.out HB.out) | (with_reducible refine Kd.C_alloc ?_ _) | (with_reducible refine Kd.C_drewN ?_ _) | (with_reducible refine Kd.C_drew ?_)))
                (case side4 => exact HC361_10.out)
                (case side5 => repeat (first | exact (Kd.C_below HR362_9.out HB.out) | (with_reducible refine Kd.C_alloc ?_ _) | (with_reducible refine Kd.C_drewN ?_ _) | (with_reducible refine Kd.C_drew ?_)))
                (case side6 => exact HC362_9.out)
                (case side7 => repeat (first | exact (Kd.C_below HR362_10.out HB.out) | (with_reducible refine Kd.C_alloc ?_ _) | (with_reducible refine Kd.C_drewN ?_ _) | (with_reducible refine Kd.C_drew ?_)))
                (case side8 => exact HC362_10.out)
                rintro e w10 ⟨rfl, hb⟩
                refine ⟨_, rfl, ?_⟩
                have n0_ := Aside0.mk (below_step (by repeat (first | (with_reducible first | exact HB.out | apply below_alloc | apply pw_below_drewN | apply below_drew1) | exact HB.out)) hb)
                clear HB
                have HB := n0_
                clear n0_
                (try clear hb)
                (try clear hb2)
                (try clear hk)
                (try clear hi)
                refine hK.out _ _ ⟨((HB.out.cell (World.block_lt_of_cell? w _ hw361_0)).trans hw361_0), ((HB.out.cell (World.block_lt_of_cell? w _ hw361_1)).trans hw361_1), ((HB.out.cell (World.block_lt_of_cell? w _ hw361_2)).trans hw361_2), ((HB.out.cell (World.block_lt_of_cell? w _ hw361_3)).trans hw361_3), ((HB.out.cell (World.block_lt_of_cell? w _ hw361_4)).trans hw361_4), ((HB.out.cell (World.block_lt_of_cell? w _ hw361_5)).trans hw361_5), ((HB.out.cell (World.block_lt_of_cell? w _ hw361_6)).trans hw361_6), ((HB.out.cell (World.block_lt_of_cell? w _ hw361_7)).trans hw361_7), ((HB.out.cell (World.block_lt_of_cell? w _ hw361_8)).trans hw361_8), ((HB.out.cell (World.block_lt_of_cell? w _ hw361_9)).trans hw361_9), ((HB.out.cell (World.block_lt_of_cell? w _ hw361_10)).trans hw361_10), ((HB.out.cell (World.block_lt_of_cell? w _ hw362_0)).trans hw362_0), ((HB.out.cell (World.block_lt_of_cell? w _ hw362_1)).trans hw362_1), ((HB.out.cell (World.block_lt_of_cell? w _ hw362_2)).trans hw362_2), ((HB.out.cell (World.block_lt_of_cell? w _ hw362_3)).trans hw362_3), ((HB.out.cell (World.block_lt_of_cell? w _ hw362_4)).trans hw362_4), ((HB.out.cell (World.block_lt_of_cell? w _ hw362_5)).trans hw362_5), ((HB.out.cell (World.block_lt_of_cell? w _ hw362_6)).trans hw362_6), ((HB.out.cell (World.block_lt_of_cell? w _ hw362_7)).trans hw362_7), ((HB.out.cell (World.block_lt_of_cell? w _ hw362_8)).trans hw362_8), ((HB.out.cell (World.block_lt_of_cell? w _ hw362_9)).trans hw362_9), ((HB.out.cell (World.block_lt_of_cell? w _ hw362_10)).trans hw362_10)⟩ (fun hHeld => ?_)
                clear hK K
                refine norm_ (a' := ?_) ?_ ?_
                rotate_left
                · show Act.put _ (some 25) _ = _
                  simp only [Act.put, List.setIfInBounds_toArray, List.set_cons_zero, List.set_cons_succ, i64_w, i32_w]
                  rfl
                refine pure_ (i := 9) (N := some 26) (v := ?_) (a' := ?_) #[true, true, true, true, true, true, true, true, true, true] rfl rfl (any_of HT_.out (by kernel_rfl)) (fun _ _ _ h => h) (Or.inl ⟨by rfl, ?_⟩) ?_ ?_
                rotate_left
                · intro w'
                  go_simp
                  with_reducible rfl
                rotate_left
                · simp only [Act.put, List.setIfInBounds_toArray, List.set_cons_zero, List.set_cons_succ, i64_w, i32_w]
                  rfl
                refine done_ (done_of HT_.out (by kernel_rfl)) ?_
                try go_wp2
                go_roundg k1
                case measure => have := HK1.out; omega
                case rel => exact ⟨(wrap64 (x5_1 + 1)), (by first | rfl | (simp; done) | (simp [*]; done)), H', ⟨by have := HK1.out; omega⟩, ⟨by repeat (first | (with_reducible first | exact HB.out | apply below_alloc | apply pw_below_drewN | apply below_drew1) | exact HB.out)⟩⟩
              · replace c8 := Bool.eq_false_iff.mpr c8
                subst c8
                have H1 : (some false) = some r := by rw [if_neg (show ¬ (false = true) by decide)] at H; exact H
                clear H
                have H := H1
                clear H1
                obtain rfl := Option.some.inj H
                try go_wp2
                have n0_ := Aside0.mk (below_drew1 HB.out)
                clear HB
                have HB := n0_
                clear n0_
                have p361 : 0 ≤ (x5_1 : Int) := of_decide_eq_true (by first | (with_reducible assumption) | assumption)
                have q361 : x5_1 < (l0.length : Int) := of_decide_eq_true (by first | (with_reducible assumption) | assumption)
                obtain ⟨ad361, A361_9, c361_9, A361_10, c361_10, e361, hx361_0, hx361_1, hx361_2, hx361_3, hx361_4, hx361_5, hx361_6, hx361_7, hx361_8, hx361_9, hx361_10, hl361_9, hi361_9, hl361_10, hi361_10⟩ := at_T41 HR0.out x5_1 p361 q361
                have hw361_10 := hx361_10
                have hw361_9 := hx361_9
                have hw361_8 := hx361_8
                have hw361_7 := hx361_7
                have hw361_6 := hx361_6
                have hw361_5 := hx361_5
                have hw361_4 := hx361_4
                have hw361_3 := hx361_3
                have hw361_2 := hx361_2
                have hw361_1 := hx361_1
                have hw361_0 := hx361_0
                cases e361
                replace hx361_0 := (HB.out.cell (World.block_lt_of_cell? w _ hx361_0)).trans hx361_0
                replace hx361_1 := (HB.out.cell (World.block_lt_of_cell? w _ hx361_1)).trans hx361_1
                replace hx361_2 := (HB.out.cell (World.block_lt_of_cell? w _ hx361_2)).trans hx361_2
                replace hx361_3 := (HB.out.cell (World.block_lt_of_cell? w _ hx361_3)).trans hx361_3
                replace hx361_4 := (HB.out.cell (World.block_lt_of_cell? w _ hx361_4)).trans hx361_4
                replace hx361_5 := (HB.out.cell (World.block_lt_of_cell? w _ hx361_5)).trans hx361_5
                replace hx361_6 := (HB.out.cell (World.block_lt_of_cell? w _ hx361_6)).trans hx361_6
                replace hx361_7 := (HB.out.cell (World.block_lt_of_cell? w _ hx361_7)).trans hx361_7
                replace hx361_8 := (HB.out.cell (World.block_lt_of_cell? w _ hx361_8)).trans hx361_8
                replace hx361_9 := (HB.out.cell (World.block_lt_of_cell? w _ hx361_9)).trans hx361_9
                replace hx361_10 := (HB.out.cell (World.block_lt_of_cell? w _ hx361_10)).trans hx361_10
                have HR361_9 := Aside0.mk hi361_9
                have HC361_9 := Aside0.mk hl361_9
                clear hi361_9 hl361_9
                have HR361_10 := Aside0.mk hi361_10
                have HC361_10 := Aside0.mk hl361_10
                clear hi361_10 hl361_10
                replace p361 := eq_true p361
                replace q361 := eq_true q361
                have p362 : 0 ≤ (x5_1 : Int) := of_decide_eq_true (by first | (with_reducible assumption) | assumption)
                have q362 : x5_1 < (l1.length : Int) := of_decide_eq_true (by first | (with_reducible assumption) | assumption)
                obtain ⟨ad362, A362_9, c362_9, A362_10, c362_10, e362, hx362_0, hx362_1, hx362_2, hx362_3, hx362_4, hx362_5, hx362_6, hx362_7, hx362_8, hx362_9, hx362_10, hl362_9, hi362_9, hl362_10, hi362_10⟩ := at_T41 HR1.out x5_1 p362 q362
                have hw362_10 := hx362_10
                have hw362_9 := hx362_9
                have hw362_8 := hx362_8
                have hw362_7 := hx362_7
                have hw362_6 := hx362_6
                have hw362_5 := hx362_5
                have hw362_4 := hx362_4
                have hw362_3 := hx362_3
                have hw362_2 := hx362_2
                have hw362_1 := hx362_1
                have hw362_0 := hx362_0
                cases e362
                replace hx362_0 := (HB.out.cell (World.block_lt_of_cell? w _ hx362_0)).trans hx362_0
                replace hx362_1 := (HB.out.cell (World.block_lt_of_cell? w _ hx362_1)).trans hx362_1
                replace hx362_2 := (HB.out.cell (World.block_lt_of_cell? w _ hx362_2)).trans hx362_2
                replace hx362_3 := (HB.out.cell (World.block_lt_of_cell? w _ hx362_3)).trans hx362_3
                replace hx362_4 := (HB.out.cell (World.block_lt_of_cell? w _ hx362_4)).trans hx362_4
                replace hx362_5 := (HB.out.cell (World.block_lt_of_cell? w _ hx362_5)).trans hx362_5
                replace hx362_6 := (HB.out.cell (World.block_lt_of_cell? w _ hx362_6)).trans hx362_6
                replace hx362_7 := (HB.out.cell (World.block_lt_of_cell? w _ hx362_7)).trans hx362_7
                replace hx362_8 := (HB.out.cell (World.block_lt_of_cell? w _ hx362_8)).trans hx362_8
                replace hx362_9 := (HB.out.cell (World.block_lt_of_cell? w _ hx362_9)).trans hx362_9
                replace hx362_10 := (HB.out.cell (World.block_lt_of_cell? w _ hx362_10)).trans hx362_10
                have HR362_9 := Aside0.mk hi362_9
                have HC362_9 := Aside0.mk hl362_9
                clear hi362_9 hl362_9
                have HR362_10 := Aside0.mk hi362_10
                have HC362_10 := Aside0.mk hl362_10
                clear hi362_10 hl362_10
                replace p362 := eq_true p362
                replace q362 := eq_true q362
                refine start_ (n := 10) (S := fun w' => w'.cell? (ad361.add ((x5_1).toNat * 11)) = some (.int .i64 ((rd_T41 l0 x5_1).f0)) ∧ w'.cell? ⟨(ad361.add ((x5_1).toNat * 11)).block, (ad361.add ((x5_1).toNat * 11)).off + 1, none⟩ = some (.string ((rd_T41 l0 x5_1).f1)) ∧ w'.cell? ⟨(ad361.add ((x5_1).toNat * 11)).block, (ad361.add ((x5_1).toNat * 11)).off + 2, none⟩ = some (.string ((rd_T41 l0 x5_1).f2)) ∧ w'.cell? ⟨(ad361.add ((x5_1).toNat * 11)).block, (ad361.add ((x5_1).toNat * 11)).off + 3, none⟩ = some (.string ((rd_T41 l0 x5_1).f3)) ∧ w'.cell? ⟨(ad361.add ((x5_1).toNat * 11)).block, (ad361.add ((x5_1).toNat * 11)).off + 4, none⟩ = some (.int .i64 ((rd_T41 l0 x5_1).f4)) ∧ w'.cell? ⟨(ad361.add ((x5_1).toNat * 11)).block, (ad361.add ((x5_1).toNat * 11)).off + 5, none⟩ = some (.int .i64 ((rd_T41 l0 x5_1).f5)) ∧ w'.cell? ⟨(ad361.add ((x5_1).toNat * 11)).block, (ad361.add ((x5_1).toNat * 11)).off + 6, none⟩ = some (.int .i64 ((rd_T41 l0 x5_1).f6)) ∧ w'.cell? ⟨(ad361.add ((x5_1).toNat * 11)).block, (ad361.add ((x5_1).toNat * 11)).off + 7, none⟩ = some (.int .i64 ((rd_T41 l0 x5_1).f7)) ∧ w'.cell? ⟨(ad361.add ((x5_1).toNat * 11)).block, (ad361.add ((x5_1).toNat * 11)).off + 8, none⟩ = some (.bool ((rd_T41 l0 x5_1).f8)) ∧ w'.cell? ⟨(ad361.add ((x5_1).toNat * 11)).block, (ad361.add ((x5_1).toNat * 11)).off + 9, none⟩ = some (.slice A361_9 ((rd_T41 l0 x5_1).f9).length c361_9) ∧ w'.cell? ⟨(ad361.add ((x5_1).toNat * 11)).block, (ad361.add ((x5_1).toNat * 11)).off + 10, none⟩ = some (.slice A361_10 ((rd_T41 l0 x5_1).f10).length c361_10) ∧ w'.cell? (ad362.add ((x5_1).toNat * 11)) = some (.int .i64 ((rd_T41 l1 x5_1).f0)) ∧ w'.cell? ⟨(ad362.add ((x5_1).toNat * 11)).block, (ad362.add ((x5_1).toNat * 11)).off + 1, none⟩ = some (.string ((rd_T41 l1 x5_1).f1)) ∧ w'.cell? ⟨(ad362.add ((x5_1).toNat * 11)).block, (ad362.add ((x5_1).toNat * 11)).off + 2, none⟩ = some (.string ((rd_T41 l1 x5_1).f2)) ∧ w'.cell? ⟨(ad362.add ((x5_1).toNat * 11)).block, (ad362.add ((x5_1).toNat * 11)).off + 3, none⟩ = some (.string ((rd_T41 l1 x5_1).f3)) ∧ w'.cell? ⟨(ad362.add ((x5_1).toNat * 11)).block, (ad362.add ((x5_1).toNat * 11)).off + 4, none⟩ = some (.int .i64 ((rd_T41 l1 x5_1).f4)) ∧ w'.cell? ⟨(ad362.add ((x5_1).toNat * 11)).block, (ad362.add ((x5_1).toNat * 11)).off + 5, none⟩ = some (.int .i64 ((rd_T41 l1 x5_1).f5)) ∧ w'.cell? ⟨(ad362.add ((x5_1).toNat * 11)).block, (ad362.add ((x5_1).toNat * 11)).off + 6, none⟩ = some (.int .i64 ((rd_T41 l1 x5_1).f6)) ∧ w'.cell? ⟨(ad362.add ((x5_1).toNat * 11)).block, (ad362.add ((x5_1).toNat * 11)).off + 7, none⟩ = some (.int .i64 ((rd_T41 l1 x5_1).f7)) ∧ w'.cell? ⟨(ad362.add ((x5_1).toNat * 11)).block, (ad362.add ((x5_1).toNat * 11)).off + 8, none⟩ = some (.bool ((rd_T41 l1 x5_1).f8)) ∧ w'.cell? ⟨(ad362.add ((x5_1).toNat * 11)).block, (ad362.add ((x5_1).toNat * 11)).off + 9, none⟩ = some (.slice A362_9 ((rd_T41 l1 x5_1).f9).length c362_9) ∧ w'.cell? ⟨(ad362.add ((x5_1).toNat * 11)).block, (ad362.add ((x5_1).toNat * 11)).off + 10, none⟩ = some (.slice A362_10 ((rd_T41 l1 x5_1).f10).length c362_10)) (ds := []) #[false, false, false, false, false, false, false, false, false, false] (by kernel_rfl) rfl rfl ⟨((HB.out.cell (World.block_lt_of_cell? w _ hw361_0)).trans hw361_0), ((HB.out.cell (World.block_lt_of_cell? w _ hw361_1)).trans hw361_1), ((HB.out.cell (World.block_lt_of_cell? w _ hw361_2)).trans hw361_2), ((HB.out.cell (World.block_lt_of_cell? w _ hw361_3)).trans hw361_3), ((HB.out.cell (World.block_lt_of_cell? w _ hw361_4)).trans hw361_4), ((HB.out.cell (World.block_lt_of_cell? w _ hw361_5)).trans hw361_5), ((HB.out.cell (World.block_lt_of_cell? w _ hw361_6)).trans hw361_6), ((HB.out.cell (World.block_lt_of_cell? w _ hw361_7)).trans hw361_7), ((HB.out.cell (World.block_lt_of_cell? w _ hw361_8)).trans hw361_8), ((HB.out.cell (World.block_lt_of_cell? w _ hw361_9)).trans hw361_9), ((HB.out.cell (World.block_lt_of_cell? w _ hw361_10)).trans hw361_10), ((HB.out.cell (World.block_lt_of_cell? w _ hw362_0)).trans hw362_0), ((HB.out.cell (World.block_lt_of_cell? w _ hw362_1)).trans hw362_1), ((HB.out.cell (World.block_lt_of_cell? w _ hw362_2)).trans hw362_2), ((HB.out.cell (World.block_lt_of_cell? w _ hw362_3)).trans hw362_3), ((HB.out.cell (World.block_lt_of_cell? w _ hw362_4)).trans hw362_4), ((HB.out.cell (World.block_lt_of_cell? w _ hw362_5)).trans hw362_5), ((HB.out.cell (World.block_lt_of_cell? w _ hw362_6)).trans hw362_6), ((HB.out.cell (World.block_lt_of_cell? w _ hw362_7)).trans hw362_7), ((HB.out.cell (World.block_lt_of_cell? w _ hw362_8)).trans hw362_8), ((HB.out.cell (World.block_lt_of_cell? w _ hw362_9)).trans hw362_9), ((HB.out.cell (World.block_lt_of_cell? w _ hw362_10)).trans hw362_10)⟩ (fun hHeld => ?_); refine with_tabW wharfref14_List.tab6 wharfref14_List.bits6 (fun HT_ HW_ => ?_)
                generalize wr.drew = w11 at HB HR361_10 HR361_9 HR362_10 HR362_9 hx361_0 hx361_1 hx361_10 hx361_2 hx361_3 hx361_4 hx361_5 hx361_6 hx361_7 hx361_8 hx361_9 hx362_0 hx362_1 hx362_10 hx362_2 hx362_3 hx362_4 hx362_5 hx362_6 hx362_7 hx362_8 hx362_9 hHeld ⊢
                refine pure_ (i := 0) (N := some 17) (v := ?_) (a' := ?_) #[true, false, false, false, false, false, false, false, false, false] rfl rfl (any_of HT_.out (by kernel_rfl)) (fun _ _ _ h => h) (Or.inl ⟨by rfl, ?_⟩) ?_ ?_
                rotate_left
                · intro w'
                  go_simp
                  with_reducible rfl
                rotate_left
                · simp only [Act.put, List.setIfInBounds_toArray, List.set_cons_zero, List.set_cons_succ, i64_w, i32_w]
                  rfl
                refine pure_ (i := 1) (N := some 18) (v := ?_) (a' := ?_) #[true, true, false, false, false, false, false, false, false, false] rfl rfl (any_of HT_.out (by kernel_rfl)) (fun _ _ _ h => h) (Or.inl ⟨by rfl, ?_⟩) ?_ ?_
                rotate_left
                · intro w'
                  go_simp
                  with_reducible rfl
                rotate_left
                · simp only [Act.put, List.setIfInBounds_toArray, List.set_cons_zero, List.set_cons_succ, i64_w, i32_w]
                  rfl
                refine pure_ (i := 2) (N := some 19) (v := ?_) (a' := ?_) #[true, true, true, false, false, false, false, false, false, false] rfl rfl (any_of HT_.out (by kernel_rfl)) (fun _ _ _ h => h) (Or.inl ⟨by rfl, ?_⟩) ?_ ?_
                rotate_left
                · intro w'
                  go_simp
                  with_reducible rfl
                rotate_left
                · simp only [Act.put, List.setIfInBounds_toArray, List.set_cons_zero, List.set_cons_succ, i64_w, i32_w]
                  rfl
                refine pure_ (i := 4) (N := some 21) (v := ?_) (a' := ?_) #[true, true, true, false, true, false, false, false, false, false] rfl rfl (any_of HT_.out (by kernel_rfl)) (fun _ _ _ h => h) (Or.inl ⟨by rfl, ?_⟩) ?_ ?_
                rotate_left
                · intro w'
                  go_simp
                  with_reducible rfl
                rotate_left
                · simp only [Act.put, List.setIfInBounds_toArray, List.set_cons_zero, List.set_cons_succ, i64_w, i32_w]
                  rfl
                refine pure_ (i := 5) (N := some 22) (v := ?_) (a' := ?_) #[true, true, true, false, true, true, false, false, false, false] rfl rfl (any_of HT_.out (by kernel_rfl)) (fun _ _ _ h => h) (Or.inl ⟨by rfl, ?_⟩) ?_ ?_
                rotate_left
                · intro w'
                  go_simp
                  with_reducible rfl
                rotate_left
                · simp only [Act.put, List.setIfInBounds_toArray, List.set_cons_zero, List.set_cons_succ, i64_w, i32_w]
                  rfl
                refine pure_ (i := 6) (N := some 23) (v := ?_) (a' := ?_) #[true, true, true, false, true, true, true, false, false, false] rfl rfl (any_of HT_.out (by kernel_rfl)) (fun _ _ _ h => h) (Or.inl ⟨by rfl, ?_⟩) ?_ ?_
                rotate_left
                · intro w'
                  go_simp
                  with_reducible rfl
                rotate_left
                · simp only [Act.put, List.setIfInBounds_toArray, List.set_cons_zero, List.set_cons_succ, i64_w, i32_w]
                  rfl
                refine take_ (i := 3) (N := some 20) (v := ?_) (a' := ?_) #[true, true, true, true, true, true, true, false, false, false] rfl rfl (take_ofW HT_.out HW_.out (by kernel_rfl)) (fun _ _ _ h => h) (Or.inl ⟨by rfl, ?_⟩) hHeld ?_ ?_
                rotate_left
                · rintro w' ⟨s0, s1, s2, s3, s4, s5, s6, s7, s8, s9, s10, s11, s12, s13, s14, s15, s16, s17, s18, s19, s20, s21⟩
                  go_simp
                  with_reducible rfl
                rotate_left
                · simp only [Act.put, List.setIfInBounds_toArray, List.set_cons_zero, List.set_cons_succ, i64_w, i32_w]
                  rfl
                refine take_ (i := 7) (N := some 24) (v := ?_) (a' := ?_) #[true, true, true, true, true, true, true, true, false, false] rfl rfl (take_ofW HT_.out HW_.out (by kernel_rfl)) (fun _ _ _ h => h) (Or.inl ⟨by rfl, ?_⟩) hHeld ?_ ?_
                rotate_left
                · rintro w' ⟨s0, s1, s2, s3, s4, s5, s6, s7, s8, s9, s10, s11, s12, s13, s14, s15, s16, s17, s18, s19, s20, s21⟩
                  go_simp
                  with_reducible rfl
                rotate_left
                · simp only [Act.put, List.setIfInBounds_toArray, List.set_cons_zero, List.set_cons_succ, i64_w, i32_w]
                  rfl
                refine one_ (i := 8) (N := some 25) #[true, true, true, true, true, true, true, true, true, false] rfl rfl (one_of HT_.out (by kernel_rfl)) (by decide) (fun K hK => ?_)
                refine goes_ Try.func36 (by kernel_rfl) rfl #[.agg #[.int .i64 ((rd_T41 l0 x5_1).f0), .string ((rd_T41 l0 x5_1).f1), .string ((rd_T41 l0 x5_1).f2), .string ((rd_T41 l0 x5_1).f3), .int .i64 ((rd_T41 l0 x5_1).f4), .int .i64 ((rd_T41 l0 x5_1).f5), .int .i64 ((rd_T41 l0 x5_1).f6), .int .i64 ((rd_T41 l0 x5_1).f7), .bool ((rd_T41 l0 x5_1).f8), .slice A361_9 ((rd_T41 l0 x5_1).f9).length c361_9, .slice A361_10 ((rd_T41 l0 x5_1).f10).length c361_10], .agg #[.int .i64 ((rd_T41 l1 x5_1).f0), .string ((rd_T41 l1 x5_1).f1), .string ((rd_T41 l1 x5_1).f2), .string ((rd_T41 l1 x5_1).f3), .int .i64 ((rd_T41 l1 x5_1).f4), .int .i64 ((rd_T41 l1 x5_1).f5), .int .i64 ((rd_T41 l1 x5_1).f6), .int .i64 ((rd_T41 l1 x5_1).f7), .bool ((rd_T41 l1 x5_1).f8), .slice A362_9 ((rd_T41 l1 x5_1).f9).length c362_9, .slice A362_10 ((rd_T41 l1 x5_1).f10).length c362_10]] (by rfl) rfl rfl (by (try simp only [List.map_toArray, List.map_cons, List.map_nil]); first | done | rfl | (simp only [List.length_drop, List.length_take]; rfl)) ?_
                with_reducible refine (wharfref14_Same.calls k1 ((rd_T41 l0 x5_1).f0) ((rd_T41 l0 x5_1).f1) ((rd_T41 l0 x5_1).f2) ((rd_T41 l0 x5_1).f3) ((rd_T41 l0 x5_1).f4) ((rd_T41 l0 x5_1).f5) ((rd_T41 l0 x5_1).f6) ((rd_T41 l0 x5_1).f7) ((rd_T41 l0 x5_1).f8) _ _ ((rd_T41 l0 x5_1).f9) _ _ ((rd_T41 l0 x5_1).f10) ((rd_T41 l1 x5_1).f0) ((rd_T41 l1 x5_1).f1) ((rd_T41 l1 x5_1).f2) ((rd_T41 l1 x5_1).f3) ((rd_T41 l1 x5_1).f4) ((rd_T41 l1 x5_1).f5) ((rd_T41 l1 x5_1).f6) ((rd_T41 l1 x5_1).f7) ((rd_T41 l1 x5_1).f8) _ _ ((rd_T41 l1 x5_1).f9) _ _ ((rd_T41 l1 x5_1).f10) false _ ?side1 ?side2 ?side3 ?side4 ?side5 ?side6 ?side7 ?side8 A7.out).mono ?_
                (case side1 => repeat (first | exact (Kd.C_below HR361_9.out HB.out) | (with_reducible refine Kd.C_alloc ?_ _) | (with_reducible refine Kd.C_drewN ?_ _) | (with_reducible refine Kd.C_drew ?_)))
                (case side2 => exact HC361_9.out)
                (case side3 => repeat (first | exact (Kd.C_below HR361_10.out HB.out) | (with_reducible refine Kd.C_alloc ?_ _) | (with_reducible refine Kd.C_drewN ?_ _) | (with_reducible refine Kd.C_drew ?_)))
                (case side4 => exact HC361_10.out)
                (case side5 => repeat (first | exact (Kd.C_below HR362_9.out HB.out) | (with_reducible refine Kd.C_alloc ?_ _) | (with_reducible refine Kd.C_drewN ?_ _) | (with_reducible refine Kd.C_drew ?_)))
                (case side6 => exact HC362_9.out)
                (case side7 => repeat (first | exact (Kd.C_below HR362_10.out HB.out) | (with_reducible refine Kd.C_alloc ?_ _) | (with_reducible refine Kd.C_drewN ?_ _) | (with_reducible refine Kd.C_drew ?_)))
                (case side8 => exact HC362_10.out)
                rintro e w12 ⟨rfl, hb⟩
                refine ⟨_, rfl, ?_⟩
                have n0_ := Aside0.mk (below_step (by repeat (first | (with_reducible first | exact HB.out | apply below_alloc | apply pw_below_drewN | apply below_drew1) | exact HB.out)) hb)
                clear HB
                have HB := n0_
                clear n0_
                (try clear hb)
                (try clear hb2)
                (try clear hk)
                (try clear hi)
                refine hK.out _ _ ⟨((HB.out.cell (World.block_lt_of_cell? w _ hw361_0)).trans hw361_0), ((HB.out.cell (World.block_lt_of_cell? w _ hw361_1)).trans hw361_1), ((HB.out.cell (World.block_lt_of_cell? w _ hw361_2)).trans hw361_2), ((HB.out.cell (World.block_lt_of_cell? w _ hw361_3)).trans hw361_3), ((HB.out.cell (World.block_lt_of_cell? w _ hw361_4)).trans hw361_4), ((HB.out.cell (World.block_lt_of_cell? w _ hw361_5)).trans hw361_5), ((HB.out.cell (World.block_lt_of_cell? w _ hw361_6)).trans hw361_6), ((HB.out.cell (World.block_lt_of_cell? w _ hw361_7)).trans hw361_7), ((HB.out.cell (World.block_lt_of_cell? w _ hw361_8)).trans hw361_8), ((HB.out.cell (World.block_lt_of_cell? w _ hw361_9)).trans hw361_9), ((HB.out.cell (World.block_lt_of_cell? w _ hw361_10)).trans hw361_10), ((HB.out.cell (World.block_lt_of_cell? w _ hw362_0)).trans hw362_0), ((HB.out.cell (World.block_lt_of_cell? w _ hw362_1)).trans hw362_1), ((HB.out.cell (World.block_lt_of_cell? w _ hw362_2)).trans hw362_2), ((HB.out.cell (World.block_lt_of_cell? w _ hw362_3)).trans hw362_3), ((HB.out.cell (World.block_lt_of_cell? w _ hw362_4)).trans hw362_4), ((HB.out.cell (World.block_lt_of_cell? w _ hw362_5)).trans hw362_5), ((HB.out.cell (World.block_lt_of_cell? w _ hw362_6)).trans hw362_6), ((HB.out.cell (World.block_lt_of_cell? w _ hw362_7)).trans hw362_7), ((HB.out.cell (World.block_lt_of_cell? w _ hw362_8)).trans hw362_8), ((HB.out.cell (World.block_lt_of_cell? w _ hw362_9)).trans hw362_9), ((HB.out.cell (World.block_lt_of_cell? w _ hw362_10)).trans hw362_10)⟩ (fun hHeld => ?_)
                clear hK K
                refine norm_ (a' := ?_) ?_ ?_
                rotate_left
                · show Act.put _ (some 25) _ = _
                  simp only [Act.put, List.setIfInBounds_toArray, List.set_cons_zero, List.set_cons_succ, i64_w, i32_w]
                  rfl
                refine pure_ (i := 9) (N := some 26) (v := ?_) (a' := ?_) #[true, true, true, true, true, true, true, true, true, true] rfl rfl (any_of HT_.out (by kernel_rfl)) (fun _ _ _ h => h) (Or.inl ⟨by rfl, ?_⟩) ?_ ?_
                rotate_left
                · intro w'
                  go_simp
                  with_reducible rfl
                rotate_left
                · simp only [Act.put, List.setIfInBounds_toArray, List.set_cons_zero, List.set_cons_succ, i64_w, i32_w]
                  rfl
                refine done_ (done_of HT_.out (by kernel_rfl)) ?_
                try go_wp2
                go_ret
                exact ⟨by first | rfl | (simp [errW_none, errW_some] <;> rfl) | (simp [*, errW_none, errW_some] <;> rfl), by repeat (first | (with_reducible first | exact HB.out | apply below_alloc | apply pw_below_drewN | apply below_drew1) | exact HB.out)⟩
            · rw [if_neg c6] at H
              exact absurd H (by simp)
          · rw [if_neg c5] at H
            exact absurd H (by simp)
        · rw [if_neg c4] at H
          have c4b0 : decide (x5_1 < (l0.length : Int)) = false := decide_eq_false c4
          clear c4
          obtain rfl := Option.some.inj H
          go_wp2
          go_ret
          exact ⟨by first | rfl | (simp [errW_none, errW_some] <;> rfl) | (simp [*, errW_none, errW_some] <;> rfl), by repeat (first | (with_reducible first | exact HB.out | apply below_alloc | apply pw_below_drewN | apply below_drew1) | exact HB.out)⟩
  · rw [if_neg c3] at H
    have c3b0 : ((l0.length : Int) == (l1.length : Int)) = false := beq_eq_false_iff_ne.mpr c3
    have c3b1 : ((l0.length : Int) != (l1.length : Int)) = true := bne_iff_ne.mpr c3
    have c3b2 : (l0.length == l1.length) = false := by first | simpa using c3 | (simp at c3 ⊢; omega)
    obtain rfl := Option.some.inj H
    go_enter Try.func27, Try.ntmps27
    go_wp2
    go_ret
    exact ⟨by first | rfl | (simp [errW_none, errW_some] <;> rfl) | (simp [*, errW_none, errW_some] <;> rfl), by repeat (first | (with_reducible first | exact HB.out | apply below_alloc | apply pw_below_drewN | apply below_drew1) | exact HB.out)⟩

end Go.Proofs.Ytbeclnffcapfpaa.H
