-- written by hp.py for this claim, out of the kit's printer and texts of my own
import Derived.Test.YtndcpbiofhclhaaHx0
import Derived.Test.YtndcpbiofhclhaaHx18
import Derived.Test.YtndcpbiofhclhaaHx25
import Derived.Handy
namespace Go.Proofs.Ytndcpbiofhclhaa.H
open Go.RowKit Go.Proofs.YtndcpbiofhclhaaW.PrintWords Go.Proofs.YtndcpbiofhclhaaW.PrintLast Go.Proofs.YtndcpbiofhclhaaW.PrintMore
attribute [local go_sem] max2_int min2_int max_two min_two max_three min_three max_four min_four   -- for this text's walks alone
set_option linter.unusedVariables false
set_option linter.unusedSimpArgs false

def snac_Parse.f (k : Nat) (b : ByteArray) : Option (Int × Int × Int × Int × ByteArray × Int) :=
  if (b.size : Int) < 10 then some (0, 0, 0, 0, ⟨#[]⟩, 130) else if (b.size : Int) > 8192 then some (0, 0, 0, 0, ⟨#[]⟩, 130) else
  (tlv_Num.f k (b.extract 0 2)).bind fun x => (tlv_Num.f k (b.extract 2 4)).bind fun y => (tlv_Num.f k (b.extract 4 6)).bind fun z => (tlv_Num.f k (b.extract 6 10)).bind fun t => some (x.1, y.1, z.1, t.1, b.extract 10 b.size, 0)
theorem snac_Parse.mono : ∀ a0 k, LeO (snac_Parse.f k a0) (snac_Parse.f (k + 1) a0) := by
  intro a0 k
  unfold snac_Parse.f
  repeat' first
      | (with_reducible exact tlv_Num.mono _ _)
      | (with_reducible exact LeO.refl _)
      | (with_reducible exact LeO.none _)
      | (with_reducible refine LeO.ite ?_ ?_)
      | (with_reducible refine LeO.bind ?_ (fun _ => ?_))
theorem widAt0 (W : World) : (Instr.index 69 (.agg #[.int .i64 2, .int .i64 2, .int .i64 2, .int .i64 4]) (.int .i64 0)).run Try.prog W = .ok (.int .i64 2) W := by kernel_rfl
theorem widAt1 (W : World) : (Instr.index 69 (.agg #[.int .i64 2, .int .i64 2, .int .i64 2, .int .i64 4]) (.int .i64 1)).run Try.prog W = .ok (.int .i64 2) W := by kernel_rfl
theorem widAt2 (W : World) : (Instr.index 69 (.agg #[.int .i64 2, .int .i64 2, .int .i64 2, .int .i64 4]) (.int .i64 2)).run Try.prog W = .ok (.int .i64 2) W := by kernel_rfl
theorem widAt3 (W : World) : (Instr.index 69 (.agg #[.int .i64 2, .int .i64 2, .int .i64 2, .int .i64 4]) (.int .i64 3)).run Try.prog W = .ok (.int .i64 4) W := by kernel_rfl
set_option maxHeartbeats 400000 in
theorem snac_Parse.bad (b : ByteArray) (w : World) (h : (b.size : Int) < 10 ∨ (b.size : Int) > 8192) :
    Calls Try.prog 15 #[.string b] w fun e w' => e = .returned (.tuple #[.agg #[.int .i64 0, .int .i64 0, .int .i64 0, .int .i64 0, .string ⟨#[]⟩], .int .i64 130]) ∧ Below w.heap.size w w' := by
  by_cases h0 : (b.size : Int) < 10
  · have d0 : decide ((b.size : Int) < 10) = true := decide_eq_true h0
    have d0' : decide (b.size < 10) = true := decide_eq_true (by omega)
    clear h h0
    go_enter Try.func15, Try.ntmps15
    go_wp2
    exact bodyPost_ret (v := .tuple #[.agg #[.int .i64 0, .int .i64 0, .int .i64 0, .int .i64 0, .string ⟨#[]⟩], .int .i64 130]) (by simp [results, Try.results15, go_sem]) rfl ⟨rfl, by repeat (first | exact Below.refl _ _ | apply below_alloc)⟩
  · have d0 : decide ((b.size : Int) < 10) = false := decide_eq_false h0
    have d1 : decide (8192 < (b.size : Int)) = true := decide_eq_true (by omega)
    have d1' : decide (8192 < b.size) = true := decide_eq_true (by omega)
    clear h h0
    go_enter Try.func15, Try.ntmps15
    go_wp2
    exact bodyPost_ret (v := .tuple #[.agg #[.int .i64 0, .int .i64 0, .int .i64 0, .int .i64 0, .string ⟨#[]⟩], .int .i64 130]) (by simp [results, Try.results15, go_sem]) rfl ⟨rfl, by repeat (first | exact Below.refl _ _ | apply below_alloc)⟩
set_option maxHeartbeats 800000 in
theorem snac_Parse.ok (k : Nat) (b : ByteArray) (x x' y y' z z' t t' : Int) (w : World) (h0 : 10 ≤ b.size) (h1 : b.size ≤ 8192) (hx : tlv_Num.f k (b.extract 0 2) = some (x, x')) (hy : tlv_Num.f k (b.extract 2 4) = some (y, y')) (hz : tlv_Num.f k (b.extract 4 6) = some (z, z')) (ht : tlv_Num.f k (b.extract 6 10) = some (t, t')) :
    Calls Try.prog 15 #[.string b] w fun e w' => e = .returned (.tuple #[.agg #[.int .i64 x, .int .i64 y, .int .i64 z, .int .i64 t, .string (b.extract 10 b.size)], .int .i64 0]) ∧ Below w.heap.size w w' := by
  have i0 := widAt0
  have i1 := widAt1
  have i2 := widAt2
  have i3 := widAt3
  have d0 : decide ((b.size : Int) < 10) = false := decide_eq_false (by omega)
  have d1 : decide (8192 < (b.size : Int)) = false := decide_eq_false (by omega)
  have kx := fun W => tlv_Num.calls k _ x x' W hx
  have ky := fun W => tlv_Num.calls k _ y y' W hy
  have kz := fun W => tlv_Num.calls k _ z z' W hz
  have kt := fun W => tlv_Num.calls k _ t t' W ht
  have g2 : ((2 : Int) ≤ (b.size : Int)) = True := eq_true (by omega)
  have g4 : ((4 : Int) ≤ (b.size : Int)) = True := eq_true (by omega)
  have g6 : ((6 : Int) ≤ (b.size : Int)) = True := eq_true (by omega)
  have g10 : ((10 : Int) ≤ (b.size : Int)) = True := eq_true (by omega)
  clear hx hy hz ht h0 h1
  go_enter Try.func15, Try.ntmps15
  go_upto_block 0 with (first | (go_at_call 40; refine (snac_widths.exact _).mono ?_; rintro e w' ⟨rfl, rfl⟩; unfold wdObj))
  go_cut [5] (fun v5 wc => v5 = .int .i64 10 ∧ Aside0 (wc.heap[w.heap.size]? = some (.cells #[.int .i64 0, .int .i64 0, .int .i64 0, .int .i64 0, .string ⟨#[]⟩] 23 (0, 0))) ∧ Aside0 (wc.heap[w.heap.size + 1]? = some (.cells #[.int .i64 x, .int .i64 y, .int .i64 z, .int .i64 t] 71 (0, 0))) ∧ Aside0 (Below w.heap.size w wc))
  case first =>
    go_wp2
    refine wp_loop_rounds 5 ?_
    rw [rounds_succ]
    go_wp2_with (go_at_call 25; refine (kx _).mono ?_; rintro e w' ⟨rfl, ⟨m1, rfl⟩⟩)
    rw [rounds_succ]
    go_wp2_with (go_at_call 25; refine (ky _).mono ?_; rintro e w' ⟨rfl, ⟨m2, rfl⟩⟩)
    rw [rounds_succ]
    go_wp2_with (go_at_call 25; refine (kz _).mono ?_; rintro e w' ⟨rfl, ⟨m3, rfl⟩⟩)
    rw [rounds_succ]
    go_wp2_with (go_at_call 25; refine (kt _).mono ?_; rintro e w' ⟨rfl, ⟨m4, rfl⟩⟩)
    rw [rounds_succ]
    go_wp2
    go_meet
    case rel =>
      refine ⟨rfl, ⟨?_⟩, ⟨?_⟩, ⟨?_⟩⟩
      · refine blk_far (blk_drewN (blk_far (blk_drewN (blk_far (blk_drewN (blk_far (blk_drewN (blk_alloc (blk_alloc (blk_new _ _) _) _) _) ?_ _) _) ?_ _) _) ?_ _) _) ?_ _ <;> simp
      · refine blk_put (cs := #[.int .i64 x, .int .i64 y, .int .i64 z, .int .i64 0]) ?_ 3 _ rfl
        refine blk_drewN ?_ _
        refine blk_put (cs := #[.int .i64 x, .int .i64 y, .int .i64 0, .int .i64 0]) ?_ 2 _ rfl
        refine blk_drewN ?_ _
        refine blk_put (cs := #[.int .i64 x, .int .i64 0, .int .i64 0, .int .i64 0]) ?_ 1 _ rfl
        refine blk_drewN ?_ _
        refine blk_put (cs := #[.int .i64 0, .int .i64 0, .int .i64 0, .int .i64 0]) ?_ 0 _ rfl
        refine blk_drewN ?_ _
        refine blk_alloc ?_ _
        have e := blk_new (w.alloc (.cells #[.int .i64 0, .int .i64 0, .int .i64 0, .int .i64 0, .string ⟨#[]⟩] 23)) (.cells #[.int .i64 0, .int .i64 0, .int .i64 0, .int .i64 0] 71)
        simpa using e
      · refine below_set (pw_below_drewN (below_set (pw_below_drewN (below_set (pw_below_drewN (below_set (pw_below_drewN (below_alloc (below_alloc (below_alloc (Below.refl _ _) _) _) _) _) ?_) _) ?_) _) ?_) _) ?_ <;> omega
  case rest =>
    obtain ⟨rfl, HR, HN, HB⟩ := hcut
    have n0 := blk_cell HN.out 0
    have n1 := blk_cell HN.out 1
    have n2 := blk_cell HN.out 2
    have n3 := blk_cell HN.out 3
    have f0 := blk_frozen HR.out 0
    have f1 := blk_frozen HR.out 1
    have f2 := blk_frozen HR.out 2
    have f3 := blk_frozen HR.out 3
    have f4 := blk_frozen HR.out 4
    have c0 := blk_cell HR.out 0
    have c1 := blk_cell HR.out 1
    have c2 := blk_cell HR.out 2
    have c3 := blk_cell HR.out 3
    have c4 := blk_cell HR.out 4
    clear kx ky kz kt i0 i1 i2 i3
    go_wp2
    go_region
    go_wp2
    refine bodyPost_ret (results_ct rfl _ _ w.heap.size 23 #[.int .i64 x, .int .i64 y, .int .i64 z, .int .i64 t, .string (b.extract 10 b.size)] (0, 0) _ rfl (by
      refine blk_drew ?_
      refine blk_put (cs := #[.int .i64 x, .int .i64 y, .int .i64 z, .int .i64 t, .string ⟨#[]⟩]) ?_ 4 _ rfl
      refine blk_put (cs := #[.int .i64 x, .int .i64 y, .int .i64 z, .int .i64 0, .string ⟨#[]⟩]) ?_ 3 _ rfl
      refine blk_put (cs := #[.int .i64 x, .int .i64 y, .int .i64 0, .int .i64 0, .string ⟨#[]⟩]) ?_ 2 _ rfl
      refine blk_put (cs := #[.int .i64 x, .int .i64 0, .int .i64 0, .int .i64 0, .string ⟨#[]⟩]) ?_ 1 _ rfl
      exact blk_put HR.out 0 _ rfl) Try.underlying23 rfl (by kernel_rfl)) rfl ?_
    exact ⟨rfl, by repeat (first | exact HB.out | apply below_drew1 | refine below_set ?_ (Nat.le_refl _))⟩
theorem snac_Parse.calls (k : Nat) (a0 : ByteArray) (r1 : Int) (r2 : Int) (r3 : Int) (r4 : Int) (r5 : ByteArray) (r6 : Int) (w : World) (h : snac_Parse.f k a0 = some (r1, r2, r3, r4, r5, r6)) :
    Calls Try.prog 15 #[.string a0] w fun e w' => e = .returned (.tuple #[.agg #[.int .i64 r1, .int .i64 r2, .int .i64 r3, .int .i64 r4, .string r5], .int .i64 r6]) ∧ Below w.heap.size w w' := by
  unfold snac_Parse.f at h
  by_cases h0 : (a0.size : Int) < 10
  · rw [if_pos h0] at h
    simp only [Option.some.injEq, Prod.mk.injEq] at h
    obtain ⟨rfl, rfl, rfl, rfl, rfl, rfl⟩ := h
    exact snac_Parse.bad a0 w (Or.inl h0)
  · rw [if_neg h0] at h
    by_cases h1 : (a0.size : Int) > 8192
    · rw [if_pos h1] at h
      simp only [Option.some.injEq, Prod.mk.injEq] at h
      obtain ⟨rfl, rfl, rfl, rfl, rfl, rfl⟩ := h
      exact snac_Parse.bad a0 w (Or.inr h1)
    · rw [if_neg h1] at h
      obtain ⟨x, hx, h⟩ := Option.bind_eq_some_iff.mp h
      obtain ⟨y, hy, h⟩ := Option.bind_eq_some_iff.mp h
      obtain ⟨z, hz, h⟩ := Option.bind_eq_some_iff.mp h
      obtain ⟨t, ht, h⟩ := Option.bind_eq_some_iff.mp h
      simp only [Option.some.injEq, Prod.mk.injEq] at h
      obtain ⟨rfl, rfl, rfl, rfl, rfl, rfl⟩ := h
      exact snac_Parse.ok k a0 x.1 x.2 y.1 y.2 z.1 z.2 t.1 t.2 w (by omega) (by omega) hx hy hz ht

end Go.Proofs.Ytndcpbiofhclhaa.H
