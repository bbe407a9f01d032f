-- written by hp.py for this claim, out of the kit's printer and texts of my own
import Derived.Test.YtndcpbiofhclhaaHx0
import Derived.Test.YtndcpbiofhclhaaHx18
import Derived.Test.YtndcpbiofhclhaaHx23
import Derived.Handy
namespace Go.Proofs.Ytndcpbiofhclhaa.H
open Go.RowKit Go.Proofs.YtndcpbiofhclhaaW.PrintWords Go.Proofs.YtndcpbiofhclhaaW.PrintLast Go.Proofs.YtndcpbiofhclhaaW.PrintMore
attribute [local go_sem] max2_int min2_int max_two min_two max_three min_three max_four min_four   -- for this text's walks alone
set_option linter.unusedVariables false
set_option linter.unusedSimpArgs false

def snacHead (a b c d : Int) : ByteArray := strOfNums (tlvBytes a 2) ++ strOfNums (tlvBytes b 2) ++ strOfNums (tlvBytes c 2) ++ strOfNums (tlvBytes d 4)
def snac_Put.f (a b c d : Int) (s : ByteArray) : Option (ByteArray × Int) :=
  if snacFits a b c d = true then (if (s.size : Int) > 8182 then some (⟨#[]⟩, 1) else some (snacHead a b c d ++ s, 0)) else some (⟨#[]⟩, 2)
theorem snac_Put.bad (r : Int) (a b c d : Int) (s : ByteArray) (w : World) (h : snac_Check.f a b c d s = some r) (h0 : (r != 0) = true) :
    Calls Try.prog 13 #[.agg #[.int .i64 a, .int .i64 b, .int .i64 c, .int .i64 d, .string s]] w fun e w' => e = .returned (.tuple #[.string ⟨#[]⟩, .int .i64 r]) ∧ Below w.heap.size w w' := by
  go_enter Try.func13, Try.ntmps13
  go_wp2_with (go_at_call 18; refine (snac_Check.calls _ _ _ _ _ _ _ h).mono ?_; rintro e w1 ⟨rfl, hb⟩)
  go_ret2
  exact ⟨rfl, ((Below.refl _ _).alloc (Nat.le_refl _) _).trans (hb.mono (by simp))⟩
theorem sizeB2 (a : Int) : (strOfNums (tlvBytes a 2)).size = 2 := by simp [strOfNums_size, tlvBytes]
theorem sizeB4 (a : Int) : (strOfNums (tlvBytes a 4)).size = 4 := by simp [strOfNums_size, tlvBytes]
theorem cellPast (W : World) (o : Obj) (n i : Nat) (v : Value) (h : n < W.heap.size ∧ W.cell? ⟨n, i, none⟩ = some v) : n < (W.alloc o).heap.size ∧ (W.alloc o).cell? ⟨n, i, none⟩ = some v :=
  ⟨by simp; omega, (World.cell?_alloc_past o n i h.1).trans h.2⟩
set_option maxHeartbeats 800000 in
theorem snac_Put.ok (a b c d : Int) (s : ByteArray) (w : World) (ha : tlvFits a 2 = true) (hb : tlvFits b 2 = true) (hc : tlvFits c 2 = true) (hd : tlvFits d 4 = true) (hs : (s.size : Int) ≤ 8182) :
    Calls Try.prog 13 #[.agg #[.int .i64 a, .int .i64 b, .int .i64 c, .int .i64 d, .string s]] w fun e w' => e = .returned (.tuple #[.string (snacHead a b c d ++ s), .int .i64 0]) ∧ Below w.heap.size w w' := by
  have hck : snac_Check.f a b c d s = some 0 := by unfold snac_Check.f snacFits; rw [if_pos (by simp [ha, hb, hc, hd]), if_neg (by omega)]
  have i0 := numAt0 a b c d
  have i1 := numAt1 a b c d
  have i2 := numAt2 a b c d
  have i3 := numAt3 a b c d
  have ka := fun W => tlv_Int.yes2 a W ha
  have kb := fun W => tlv_Int.yes2 b W hb
  have kc := fun W => tlv_Int.yes2 c W hc
  have kd := fun W => tlv_Int.yes4 d W hd
  have za := sizeB2 a
  have zb := sizeB2 b
  have zc := sizeB2 c
  have zd := sizeB4 d
  unfold snacHead
  generalize strOfNums (tlvBytes a 2) = ta at *
  generalize strOfNums (tlvBytes b 2) = tb at *
  generalize strOfNums (tlvBytes c 2) = tc at *
  generalize strOfNums (tlvBytes d 4) = td at *
  have z1 : (⟨#[]⟩ ++ ta : ByteArray).size = 2 := by rw [ByteArray.size_append, za]; rfl
  have z2 : (⟨#[]⟩ ++ ta ++ tb : ByteArray).size = 4 := by rw [ByteArray.size_append, z1, zb]
  have z3 : (⟨#[]⟩ ++ ta ++ tb ++ tc : ByteArray).size = 6 := by rw [ByteArray.size_append, z2, zc]
  have z4 : (⟨#[]⟩ ++ ta ++ tb ++ tc ++ td : ByteArray).size = 10 := by rw [ByteArray.size_append, z3, zd]
  have z5 : (10 : Nat) + s.size ≤ 9223372036854775807 := by omega
  have z0 : (⟨#[]⟩ : ByteArray).size = 0 := rfl
  have fin : (⟨#[]⟩ ++ ta ++ tb ++ tc ++ td ++ s : ByteArray) = ta ++ tb ++ tc ++ td ++ s := by
    have e0 : (⟨#[]⟩ ++ ta : ByteArray) = ta := ByteArray.empty_append
    rw [e0]
  have FIN := Aside0.mk fin
  clear ha hb hc hd hs fin
  go_enter Try.func13, Try.ntmps13
  go_wp2_with (go_at_call 18; refine (snac_Check.calls _ _ _ _ _ _ _ hck).mono ?_; rintro e w1 ⟨rfl, hb⟩)
  have q0 : w1.cell? ⟨w.heap.size, 0, none⟩ = some (.int .i64 a) := (hb.cell (p := ⟨w.heap.size, 0, none⟩) (by simp)).trans (by simp)
  have q1 : w1.cell? ⟨w.heap.size, 1, none⟩ = some (.int .i64 b) := (hb.cell (p := ⟨w.heap.size, 1, none⟩) (by simp)).trans (by simp)
  have q2 : w1.cell? ⟨w.heap.size, 2, none⟩ = some (.int .i64 c) := (hb.cell (p := ⟨w.heap.size, 2, none⟩) (by simp)).trans (by simp)
  have q3 : w1.cell? ⟨w.heap.size, 3, none⟩ = some (.int .i64 d) := (hb.cell (p := ⟨w.heap.size, 3, none⟩) (by simp)).trans (by simp)
  have q4 : w1.cell? ⟨w.heap.size, 4, none⟩ = some (.string s) := (hb.cell (p := ⟨w.heap.size, 4, none⟩) (by simp)).trans (by simp)
  have hz : w.heap.size < w1.heap.size := by have := hb.size; simp at this; omega
  have q4' : ∀ o1 o2 o3 o4 o5 o6 o7 o8, ((((((((w1.alloc o1).alloc o2).alloc o3).alloc o4).alloc o5).alloc o6).alloc o7).alloc o8).cell? ⟨w.heap.size, 4, none⟩ = some (.string s) := fun o1 o2 o3 o4 o5 o6 o7 o8 => (cellPast _ o8 _ _ _ (cellPast _ o7 _ _ _ (cellPast _ o6 _ _ _ (cellPast _ o5 _ _ _ (cellPast _ o4 _ _ _ (cellPast _ o3 _ _ _ (cellPast _ o2 _ _ _ (cellPast _ o1 _ _ _ ⟨hz, q4⟩)))))))).2
  have HB := Aside0.mk hb
  clear hb
  go_wp2_with (first | (go_at_call 40; refine (snac_widths.exact _).mono ?_; rintro e w' ⟨rfl, rfl⟩; unfold wdObj) | (go_at_call 41; refine (snac_numbers.exact _ _ _ _ _ _).mono ?_; rintro e w' ⟨rfl, rfl⟩; unfold snObj nmObj))
  refine wp_loop_rounds 5 ?_
  rw [rounds_succ]
  go_wp2_with (go_at_call 23; refine (ka _).mono ?_; rintro e w' ⟨rfl, rfl⟩; unfold tlvObj)
  rw [rounds_succ]
  go_wp2_with (go_at_call 23; refine (kb _).mono ?_; rintro e w' ⟨rfl, rfl⟩; unfold tlvObj)
  rw [rounds_succ]
  go_wp2_with (go_at_call 23; refine (kc _).mono ?_; rintro e w' ⟨rfl, rfl⟩; unfold tlvObj)
  rw [rounds_succ]
  go_wp2_with (go_at_call 23; refine (kd _).mono ?_; rintro e w' ⟨rfl, rfl⟩; unfold tlvObj)
  rw [rounds_succ]
  go_wp2
  go_ret2
  rw [FIN.out]
  exact ⟨rfl, by repeat (first | exact ((Below.refl _ _).alloc (Nat.le_refl _) _).trans (HB.out.mono (by simp)) | (refine Below.alloc ?_ (by have := HB.out.size; simp at this ⊢; omega) _))⟩
theorem snac_Put.calls (a b c d : Int) (s : ByteArray) (r1 : ByteArray) (r2 : Int) (w : World) (h : snac_Put.f a b c d s = some (r1, r2)) :
    Calls Try.prog 13 #[.agg #[.int .i64 a, .int .i64 b, .int .i64 c, .int .i64 d, .string s]] w fun e w' => e = .returned (.tuple #[.string r1, .int .i64 r2]) ∧ Below w.heap.size w w' := by
  unfold snac_Put.f at h
  by_cases hf : snacFits a b c d = true
  · rw [if_pos hf] at h
    by_cases hs : (s.size : Int) > 8182
    · rw [if_pos hs] at h
      simp only [Option.some.injEq, Prod.mk.injEq] at h
      obtain ⟨rfl, rfl⟩ := h
      exact snac_Put.bad 1 a b c d s w (by unfold snac_Check.f; rw [if_pos hf, if_pos hs]) rfl
    · rw [if_neg hs] at h
      simp only [Option.some.injEq, Prod.mk.injEq] at h
      obtain ⟨rfl, rfl⟩ := h
      simp only [snacFits, Bool.and_eq_true] at hf
      exact snac_Put.ok a b c d s w hf.1 hf.2.1 hf.2.2.1 hf.2.2.2 (by omega)
  · rw [if_neg hf] at h
    simp only [Option.some.injEq, Prod.mk.injEq] at h
    obtain ⟨rfl, rfl⟩ := h
    exact snac_Put.bad 2 a b c d s w (by unfold snac_Check.f; rw [if_neg hf]) rfl

end Go.Proofs.Ytndcpbiofhclhaa.H
