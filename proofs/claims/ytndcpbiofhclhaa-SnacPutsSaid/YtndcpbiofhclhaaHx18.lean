-- written by hp.py for this claim, out of the kit's printer and texts of my own
import Derived.Test.YtndcpbiofhclhaaHx0
import Derived.Test.YtndcpbiofhclhaaHx23
import Derived.Handy
namespace Go.Proofs.Ytndcpbiofhclhaa.H
open Go.RowKit Go.Proofs.YtndcpbiofhclhaaW.PrintWords Go.Proofs.YtndcpbiofhclhaaW.PrintLast Go.Proofs.YtndcpbiofhclhaaW.PrintMore
attribute [local go_sem] max2_int min2_int max_two min_two max_three min_three max_four min_four   -- for this text's walks alone
set_option linter.unusedVariables false
set_option linter.unusedSimpArgs false

def wdObj : Obj := .cells #[.int .i64 2, .int .i64 2, .int .i64 2, .int .i64 4] 69
def nmObj (a b c d : Int) : Obj := .cells #[.int .i64 a, .int .i64 b, .int .i64 c, .int .i64 d] 71
def snObj (a b c d : Int) (s : ByteArray) : Obj := .cells #[.int .i64 a, .int .i64 b, .int .i64 c, .int .i64 d, .string s] 23
theorem snac_widths.exact (w : World) :
    Calls Try.prog 40 #[] w fun e w' => e = .returned (.agg #[.int .i64 2, .int .i64 2, .int .i64 2, .int .i64 4]) ∧ w' = w.alloc wdObj := by
  go_enter Try.func40, Try.ntmps40
  go_wp2
  exact bodyPost_ret (v := .agg #[.int .i64 2, .int .i64 2, .int .i64 2, .int .i64 4]) (by simp [results, Try.results40, go_sem]) rfl ⟨rfl, rfl⟩
theorem snac_numbers.exact (a b c d : Int) (s : ByteArray) (w : World) :
    Calls Try.prog 41 #[.agg #[.int .i64 a, .int .i64 b, .int .i64 c, .int .i64 d, .string s]] w fun e w' => e = .returned (.agg #[.int .i64 a, .int .i64 b, .int .i64 c, .int .i64 d]) ∧ w' = (w.alloc (snObj a b c d s)).alloc (nmObj a b c d) := by
  go_enter Try.func41, Try.ntmps41
  go_wp2
  exact bodyPost_ret (v := .agg #[.int .i64 a, .int .i64 b, .int .i64 c, .int .i64 d]) (by simp [results, Try.results41, go_sem]) rfl ⟨rfl, rfl⟩
def snacFits (a b c d : Int) : Bool := tlvFits a 2 && (tlvFits b 2 && (tlvFits c 2 && tlvFits d 4))
def snac_Check.f (a b c d : Int) (s : ByteArray) : Option Int := if snacFits a b c d = true then (if (s.size : Int) > 8182 then some 1 else some 0) else some 2
theorem tlvFits2 (a : Int) : tlvFits a 2 = true ↔ (0 ≤ a ∧ a / 65536 = 0) := by simp [tlvFits]
theorem tlvFits4 (a : Int) : tlvFits a 4 = true ↔ (0 ≤ a ∧ a / 4294967296 = 0) := by simp [tlvFits]
theorem tlv_Int.yes2 (a : Int) (w : World) (h : tlvFits a 2 = true) : Calls Try.prog 23 #[.int .i64 a, .int .i64 2] w fun e w' => e = .returned (.tuple #[.string (strOfNums (tlvBytes a 2)), .int .i64 0]) ∧ w' = w.alloc (tlvObj a) := tlv_Int.ok2 a w ((tlvFits2 a).mp h).1 ((tlvFits2 a).mp h).2
theorem tlv_Int.yes4 (a : Int) (w : World) (h : tlvFits a 4 = true) : Calls Try.prog 23 #[.int .i64 a, .int .i64 4] w fun e w' => e = .returned (.tuple #[.string (strOfNums (tlvBytes a 4)), .int .i64 0]) ∧ w' = w.alloc (tlvObj a) := tlv_Int.ok4 a w ((tlvFits4 a).mp h).1 ((tlvFits4 a).mp h).2
theorem tlv_Int.not2 (a : Int) (w : World) (h : ¬ tlvFits a 2 = true) : Calls Try.prog 23 #[.int .i64 a, .int .i64 2] w fun e w' => e = .returned (.tuple #[.string ⟨#[]⟩, .int .i64 2]) ∧ w' = w := tlv_Int.no2 a w (fun c => h ((tlvFits2 a).mpr c))
theorem tlv_Int.not4 (a : Int) (w : World) (h : ¬ tlvFits a 4 = true) : Calls Try.prog 23 #[.int .i64 a, .int .i64 4] w fun e w' => e = .returned (.tuple #[.string ⟨#[]⟩, .int .i64 2]) ∧ w' = w := tlv_Int.no4 a w (fun c => h ((tlvFits4 a).mpr c))
theorem numAt0 (a b c d : Int) (W : World) : (Instr.index 71 (.agg #[.int .i64 a, .int .i64 b, .int .i64 c, .int .i64 d]) (.int .i64 0)).run Try.prog W = .ok (.int .i64 a) W := by kernel_rfl
theorem numAt1 (a b c d : Int) (W : World) : (Instr.index 71 (.agg #[.int .i64 a, .int .i64 b, .int .i64 c, .int .i64 d]) (.int .i64 1)).run Try.prog W = .ok (.int .i64 b) W := by kernel_rfl
theorem numAt2 (a b c d : Int) (W : World) : (Instr.index 71 (.agg #[.int .i64 a, .int .i64 b, .int .i64 c, .int .i64 d]) (.int .i64 2)).run Try.prog W = .ok (.int .i64 c) W := by kernel_rfl
theorem numAt3 (a b c d : Int) (W : World) : (Instr.index 71 (.agg #[.int .i64 a, .int .i64 b, .int .i64 c, .int .i64 d]) (.int .i64 3)).run Try.prog W = .ok (.int .i64 d) W := by kernel_rfl
set_option maxHeartbeats 400000 in
theorem snac_Check.bad0 (a b c d : Int) (s : ByteArray) (w : World) (ha : ¬ tlvFits a 2 = true) :
    Calls Try.prog 18 #[.agg #[.int .i64 a, .int .i64 b, .int .i64 c, .int .i64 d, .string s]] w fun e w' => e = .returned (.int .i64 2) ∧ Below w.heap.size w w' := by
  have ka := fun W => tlv_Int.not2 a W ha
  clear ha
  have i0 := numAt0 a b c d
  have i1 := numAt1 a b c d
  have i2 := numAt2 a b c d
  have i3 := numAt3 a b c d
  go_enter Try.func18, Try.ntmps18
  go_wp2_with (first | (go_at_call 40; refine (snac_widths.exact _).mono ?_; rintro e w' ⟨rfl, rfl⟩; unfold wdObj) | (go_at_call 41; refine (snac_numbers.exact _ _ _ _ _ _).mono ?_; rintro e w' ⟨rfl, rfl⟩; unfold snObj nmObj))
  refine wp_loop_rounds 5 ?_
  rw [rounds_succ]
  go_wp2_with (go_at_call 23; refine (ka _).mono ?_; rintro e w' ⟨rfl, rfl⟩)
  go_ret
  exact ⟨rfl, by repeat (first | exact Below.refl _ _ | apply below_alloc)⟩
set_option maxHeartbeats 400000 in
theorem snac_Check.bad1 (a b c d : Int) (s : ByteArray) (w : World) (ha : tlvFits a 2 = true) (hb : ¬ tlvFits b 2 = true) :
    Calls Try.prog 18 #[.agg #[.int .i64 a, .int .i64 b, .int .i64 c, .int .i64 d, .string s]] w fun e w' => e = .returned (.int .i64 2) ∧ Below w.heap.size w w' := by
  have ka := fun W => tlv_Int.yes2 a W ha
  have kb := fun W => tlv_Int.not2 b W hb
  clear ha hb
  have i0 := numAt0 a b c d
  have i1 := numAt1 a b c d
  have i2 := numAt2 a b c d
  have i3 := numAt3 a b c d
  go_enter Try.func18, Try.ntmps18
  go_wp2_with (first | (go_at_call 40; refine (snac_widths.exact _).mono ?_; rintro e w' ⟨rfl, rfl⟩; unfold wdObj) | (go_at_call 41; refine (snac_numbers.exact _ _ _ _ _ _).mono ?_; rintro e w' ⟨rfl, rfl⟩; unfold snObj nmObj))
  refine wp_loop_rounds 5 ?_
  rw [rounds_succ]
  go_wp2_with (go_at_call 23; refine (ka _).mono ?_; rintro e w' ⟨rfl, rfl⟩; unfold tlvObj)
  rw [rounds_succ]
  go_wp2_with (go_at_call 23; refine (kb _).mono ?_; rintro e w' ⟨rfl, rfl⟩)
  go_ret
  exact ⟨rfl, by repeat (first | exact Below.refl _ _ | apply below_alloc)⟩
set_option maxHeartbeats 400000 in
theorem snac_Check.bad2 (a b c d : Int) (s : ByteArray) (w : World) (ha : tlvFits a 2 = true) (hb : tlvFits b 2 = true) (hc : ¬ tlvFits c 2 = true) :
    Calls Try.prog 18 #[.agg #[.int .i64 a, .int .i64 b, .int .i64 c, .int .i64 d, .string s]] w fun e w' => e = .returned (.int .i64 2) ∧ Below w.heap.size w w' := by
  have ka := fun W => tlv_Int.yes2 a W ha
  have kb := fun W => tlv_Int.yes2 b W hb
  have kc := fun W => tlv_Int.not2 c W hc
  clear ha hb hc
  have i0 := numAt0 a b c d
  have i1 := numAt1 a b c d
  have i2 := numAt2 a b c d
  have i3 := numAt3 a b c d
  go_enter Try.func18, Try.ntmps18
  go_wp2_with (first | (go_at_call 40; refine (snac_widths.exact _).mono ?_; rintro e w' ⟨rfl, rfl⟩; unfold wdObj) | (go_at_call 41; refine (snac_numbers.exact _ _ _ _ _ _).mono ?_; rintro e w' ⟨rfl, rfl⟩; unfold snObj nmObj))
  refine wp_loop_rounds 5 ?_
  rw [rounds_succ]
  go_wp2_with (go_at_call 23; refine (ka _).mono ?_; rintro e w' ⟨rfl, rfl⟩; unfold tlvObj)
  rw [rounds_succ]
  go_wp2_with (go_at_call 23; refine (kb _).mono ?_; rintro e w' ⟨rfl, rfl⟩; unfold tlvObj)
  rw [rounds_succ]
  go_wp2_with (go_at_call 23; refine (kc _).mono ?_; rintro e w' ⟨rfl, rfl⟩)
  go_ret
  exact ⟨rfl, by repeat (first | exact Below.refl _ _ | apply below_alloc)⟩
set_option maxHeartbeats 400000 in
theorem snac_Check.bad3 (a b c d : Int) (s : ByteArray) (w : World) (ha : tlvFits a 2 = true) (hb : tlvFits b 2 = true) (hc : tlvFits c 2 = true) (hd : ¬ tlvFits d 4 = true) :
    Calls Try.prog 18 #[.agg #[.int .i64 a, .int .i64 b, .int .i64 c, .int .i64 d, .string s]] w fun e w' => e = .returned (.int .i64 2) ∧ Below w.heap.size w w' := by
  have ka := fun W => tlv_Int.yes2 a W ha
  have kb := fun W => tlv_Int.yes2 b W hb
  have kc := fun W => tlv_Int.yes2 c W hc
  have kd := fun W => tlv_Int.not4 d W hd
  clear ha hb hc hd
  have i0 := numAt0 a b c d
  have i1 := numAt1 a b c d
  have i2 := numAt2 a b c d
  have i3 := numAt3 a b c d
  go_enter Try.func18, Try.ntmps18
  go_wp2_with (first | (go_at_call 40; refine (snac_widths.exact _).mono ?_; rintro e w' ⟨rfl, rfl⟩; unfold wdObj) | (go_at_call 41; refine (snac_numbers.exact _ _ _ _ _ _).mono ?_; rintro e w' ⟨rfl, rfl⟩; unfold snObj nmObj))
  refine wp_loop_rounds 5 ?_
  rw [rounds_succ]
  go_wp2_with (go_at_call 23; refine (ka _).mono ?_; rintro e w' ⟨rfl, rfl⟩; unfold tlvObj)
  rw [rounds_succ]
  go_wp2_with (go_at_call 23; refine (kb _).mono ?_; rintro e w' ⟨rfl, rfl⟩; unfold tlvObj)
  rw [rounds_succ]
  go_wp2_with (go_at_call 23; refine (kc _).mono ?_; rintro e w' ⟨rfl, rfl⟩; unfold tlvObj)
  rw [rounds_succ]
  go_wp2_with (go_at_call 23; refine (kd _).mono ?_; rintro e w' ⟨rfl, rfl⟩)
  go_ret
  exact ⟨rfl, by repeat (first | exact Below.refl _ _ | apply below_alloc)⟩
set_option maxHeartbeats 400000 in
theorem snac_Check.long (a b c d : Int) (s : ByteArray) (w : World) (ha : tlvFits a 2 = true) (hb : tlvFits b 2 = true) (hc : tlvFits c 2 = true) (hd : tlvFits d 4 = true) (hs : decide (8182 < (s.size : Int)) = true) :
    Calls Try.prog 18 #[.agg #[.int .i64 a, .int .i64 b, .int .i64 c, .int .i64 d, .string s]] w fun e w' => e = .returned (.int .i64 1) ∧ Below w.heap.size w w' := by
  have ka := fun W => tlv_Int.yes2 a W ha
  have kb := fun W => tlv_Int.yes2 b W hb
  have kc := fun W => tlv_Int.yes2 c W hc
  have kd := fun W => tlv_Int.yes4 d W hd
  clear ha hb hc hd
  have i0 := numAt0 a b c d
  have i1 := numAt1 a b c d
  have i2 := numAt2 a b c d
  have i3 := numAt3 a b c d
  go_enter Try.func18, Try.ntmps18
  go_wp2_with (first | (go_at_call 40; refine (snac_widths.exact _).mono ?_; rintro e w' ⟨rfl, rfl⟩; unfold wdObj) | (go_at_call 41; refine (snac_numbers.exact _ _ _ _ _ _).mono ?_; rintro e w' ⟨rfl, rfl⟩; unfold snObj nmObj))
  refine wp_loop_rounds 5 ?_
  rw [rounds_succ]
  go_wp2_with (go_at_call 23; refine (ka _).mono ?_; rintro e w' ⟨rfl, rfl⟩; unfold tlvObj)
  rw [rounds_succ]
  go_wp2_with (go_at_call 23; refine (kb _).mono ?_; rintro e w' ⟨rfl, rfl⟩; unfold tlvObj)
  rw [rounds_succ]
  go_wp2_with (go_at_call 23; refine (kc _).mono ?_; rintro e w' ⟨rfl, rfl⟩; unfold tlvObj)
  rw [rounds_succ]
  go_wp2_with (go_at_call 23; refine (kd _).mono ?_; rintro e w' ⟨rfl, rfl⟩; unfold tlvObj)
  rw [rounds_succ]
  go_wp2
  go_ret
  exact ⟨rfl, by repeat (first | exact Below.refl _ _ | apply below_alloc)⟩
set_option maxHeartbeats 400000 in
theorem snac_Check.ok (a b c d : Int) (s : ByteArray) (w : World) (ha : tlvFits a 2 = true) (hb : tlvFits b 2 = true) (hc : tlvFits c 2 = true) (hd : tlvFits d 4 = true) (hs : decide (8182 < (s.size : Int)) = false) :
    Calls Try.prog 18 #[.agg #[.int .i64 a, .int .i64 b, .int .i64 c, .int .i64 d, .string s]] w fun e w' => e = .returned (.int .i64 0) ∧ Below w.heap.size w w' := by
  have ka := fun W => tlv_Int.yes2 a W ha
  have kb := fun W => tlv_Int.yes2 b W hb
  have kc := fun W => tlv_Int.yes2 c W hc
  have kd := fun W => tlv_Int.yes4 d W hd
  clear ha hb hc hd
  have i0 := numAt0 a b c d
  have i1 := numAt1 a b c d
  have i2 := numAt2 a b c d
  have i3 := numAt3 a b c d
  go_enter Try.func18, Try.ntmps18
  go_wp2_with (first | (go_at_call 40; refine (snac_widths.exact _).mono ?_; rintro e w' ⟨rfl, rfl⟩; unfold wdObj) | (go_at_call 41; refine (snac_numbers.exact _ _ _ _ _ _).mono ?_; rintro e w' ⟨rfl, rfl⟩; unfold snObj nmObj))
  refine wp_loop_rounds 5 ?_
  rw [rounds_succ]
  go_wp2_with (go_at_call 23; refine (ka _).mono ?_; rintro e w' ⟨rfl, rfl⟩; unfold tlvObj)
  rw [rounds_succ]
  go_wp2_with (go_at_call 23; refine (kb _).mono ?_; rintro e w' ⟨rfl, rfl⟩; unfold tlvObj)
  rw [rounds_succ]
  go_wp2_with (go_at_call 23; refine (kc _).mono ?_; rintro e w' ⟨rfl, rfl⟩; unfold tlvObj)
  rw [rounds_succ]
  go_wp2_with (go_at_call 23; refine (kd _).mono ?_; rintro e w' ⟨rfl, rfl⟩; unfold tlvObj)
  rw [rounds_succ]
  go_wp2
  go_ret
  exact ⟨rfl, by repeat (first | exact Below.refl _ _ | apply below_alloc)⟩
theorem snac_Check.calls (a b c d : Int) (s : ByteArray) (r : Int) (w : World) (h : snac_Check.f a b c d s = some r) :
    Calls Try.prog 18 #[.agg #[.int .i64 a, .int .i64 b, .int .i64 c, .int .i64 d, .string s]] w fun e w' => e = .returned (.int .i64 r) ∧ Below w.heap.size w w' := by
  unfold snac_Check.f at h
  by_cases ha : tlvFits a 2 = true
  · by_cases hb : tlvFits b 2 = true
    · by_cases hc : tlvFits c 2 = true
      · by_cases hd : tlvFits d 4 = true
        · rw [if_pos (by simp [snacFits, ha, hb, hc, hd])] at h
          by_cases hs : (s.size : Int) > 8182
          · rw [if_pos hs] at h
            obtain rfl := Option.some.inj h
            exact snac_Check.long a b c d s w ha hb hc hd (decide_eq_true hs)
          · rw [if_neg hs] at h
            obtain rfl := Option.some.inj h
            exact snac_Check.ok a b c d s w ha hb hc hd (decide_eq_false hs)
        · rw [if_neg (by simp [snacFits, hd])] at h
          obtain rfl := Option.some.inj h
          exact snac_Check.bad3 a b c d s w ha hb hc hd
      · rw [if_neg (by simp [snacFits, hc])] at h
        obtain rfl := Option.some.inj h
        exact snac_Check.bad2 a b c d s w ha hb hc
    · rw [if_neg (by simp [snacFits, hb])] at h
      obtain rfl := Option.some.inj h
      exact snac_Check.bad1 a b c d s w ha hb
  · rw [if_neg (by simp [snacFits, ha])] at h
    obtain rfl := Option.some.inj h
    exact snac_Check.bad0 a b c d s w ha

end Go.Proofs.Ytndcpbiofhclhaa.H
