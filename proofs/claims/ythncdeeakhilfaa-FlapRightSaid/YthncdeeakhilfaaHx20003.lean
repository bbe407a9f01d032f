-- written by hp.py for this claim, out of the kit's printer and texts of my own
import Derived.Test.YthncdeeakhilfaaHx0
import Derived.Test.YthncdeeakhilfaaHx20001
import Derived.Test.YthncdeeakhilfaaHx20002
import Derived.Test.YthncdeeakhilfaaHx20001
import Derived.Test.YthncdeeakhilfaaHx20002
import Derived.Deep.QuietTactic
import Derived.BigQuiet
import Derived.WalkKit
namespace Go.Proofs.Ythncdeeakhilfaa.H
open Go.RowKit Go.Proofs.YthncdeeakhilfaaW.PrintWords Go.Proofs.YthncdeeakhilfaaW.PrintLast Go.Proofs.YthncdeeakhilfaaW.PrintMore
attribute [local go_sem] max2_int min2_int max_two min_two max_three min_three max_four min_four   -- for this text's walks alone
set_option linter.unusedVariables false
set_option linter.unusedSimpArgs false

def flapNew : FlapSt := ⟨0, 0, ⟨#[]⟩, [], 0, -1, 0⟩
theorem flapNew_ok : FlapOk flapNew := ⟨by decide, fun _ => Or.inl (by decide)⟩
theorem flapNew_calls (B : Nat) (W : World) (hB : B ≤ W.heap.size) :
    Calls Try.prog 11 #[] W fun e W' => e = .returned (.pointer (some ⟨W.heap.size, 0, none⟩)) ∧ FlapAt B W' W.heap.size flapNew (.slice none 0 0) ∧ Below W.heap.size W W' := by
  have HB := Aside0.mk hB
  clear hB
  go_enter Try.func11, Try.ntmps11
  go_wp2
  go_ret
  exact ⟨rfl, ⟨heap_alloc_new W _, own_nil _ _ _ _, HB.out⟩, (Below.refl _ _).alloc (Nat.le_refl _) _⟩
theorem flapErr_calls (B g : Nat) (st : FlapSt) (v : Value) (W : World) (h : FlapAt B W g st v) :
    Calls Try.prog 16 #[.pointer (some ⟨g, 0, none⟩)] W fun e W' => e = .returned (.int .i64 st.err) ∧ W = W' := by
  obtain ⟨q0, q1, q2, q3, q4, q5, q6⟩ := h.cells
  clear h
  go_enter Try.func16, Try.ntmps16
  go_wp2
  go_ret
  exact ⟨rfl, rfl⟩
theorem flapErr_nil (W : World) : Calls Try.prog 16 #[.pointer none] W fun e W' => e = .returned (.int .i64 7) ∧ W = W' := by
  go_enter Try.func16, Try.ntmps16
  go_wp2
  go_ret
  exact ⟨rfl, rfl⟩
theorem flapLeft_nil (W : World) : Calls Try.prog 17 #[.pointer none] W fun e W' => e = .returned (.int .i64 0) ∧ W = W' := by
  go_enter Try.func17, Try.ntmps17
  go_wp2
  go_ret
  exact ⟨rfl, rfl⟩
theorem flapFeed_nil (b : ByteArray) (W : World) : Calls Try.prog 12 #[.pointer none, .string b] W fun e W' => e = .returned (.slice none 0 0) ∧ W = W' := by
  go_enter Try.func12, Try.ntmps12
  go_wp2
  go_ret
  exact ⟨rfl, rfl⟩
def flapLeft (st : FlapSt) : Int := if st.err = 0 then (st.rd.length : Int) else 0
theorem flapLeft_calls (B g : Nat) (st : FlapSt) (v : Value) (W : World) (h : FlapAt B W g st v) :
    Calls Try.prog 17 #[.pointer (some ⟨g, 0, none⟩)] W fun e W' => e = .returned (.int .i64 (flapLeft st)) ∧ W = W' := by
  obtain ⟨A1, cp1, rfl⟩ := own_slice h.own
  obtain ⟨q0, q1, q2, q3, q4, q5, q6⟩ := h.cells
  clear h
  unfold flapLeft
  by_cases he : st.err = 0
  · rw [if_pos he]
    have d : (st.err != 0) = false := bne_eq_false_iff_eq.mpr he
    have d' : (st.err == 0) = true := beq_iff_eq.mpr he
    clear he
    go_enter Try.func17, Try.ntmps17
    go_wp2
    go_ret
    exact ⟨rfl, rfl⟩
  · rw [if_neg he]
    have d : (st.err != 0) = true := bne_iff_ne.mpr he
    have d' : (st.err == 0) = false := beq_eq_false_iff_ne.mpr he
    clear he
    go_enter Try.func17, Try.ntmps17
    go_wp2
    go_ret
    exact ⟨rfl, rfl⟩
theorem flapRun_out : ∀ (l : List UInt8) (st : FlapSt) (out : List S37), flapRun l st out = ((flapRun l st []).1, out ++ (flapRun l st []).2) := by
  intro l
  induction l with
  | nil => intro st out; simp [flapRun]
  | cons c l ih =>
    intro st out
    simp only [flapRun]
    by_cases h : st.err = 0
    · rw [if_pos h, if_pos h, ih, ih _ ([] ++ _)]
      simp
    · rw [if_neg h, if_neg h]
      simp
theorem flapRun_append : ∀ (l m : List UInt8) (st : FlapSt) (out : List S37), flapRun (l ++ m) st out = flapRun m (flapRun l st out).1 (flapRun l st out).2 := by
  intro l
  induction l with
  | nil => intro m st out; rfl
  | cons c l ih =>
    intro m st out
    rw [List.cons_append]
    simp only [flapRun]
    by_cases h : st.err = 0
    · rw [if_pos h, if_pos h, ih]
    · rw [if_neg h, if_neg h]
      dsimp only
      rw [flapRun_err m st out h]
theorem flapRun_ok : ∀ (l : List UInt8) (st : FlapSt) (out : List S37), FlapOk st → FlapOk (flapRun l st out).1 := by
  intro l
  induction l with
  | nil => intro st out h; exact h
  | cons c l ih =>
    intro st out h
    simp only [flapRun]
    by_cases h0 : st.err = 0
    · rw [if_pos h0]
      exact ih _ _ (flapByte_ok st _ h h0)
    · rw [if_neg h0]
      exact h
theorem flapRun_len : ∀ (l : List UInt8) (st : FlapSt) (out : List S37), (flapRun l st out).2.length ≤ out.length + l.length := by
  intro l
  induction l with
  | nil => intro st out; simp [flapRun]
  | cons c l ih =>
    intro st out
    simp only [flapRun]
    by_cases h0 : st.err = 0
    · rw [if_pos h0]
      have h1 := ih (flapByte st (c.toNat : Int)).1 (out ++ (flapByte st (c.toNat : Int)).2)
      have h2 : (flapByte st (c.toNat : Int)).2.length ≤ 1 := by
        unfold flapByte
        dsimp only
        split <;> simp
      rw [List.length_append] at h1
      rw [List.length_cons]
      omega
    · rw [if_neg h0]
      simp
/-- the frames' rows bear no rows within -/
theorem flapKM {W : World} {base : Nat} {okp : Nat → Prop} (x : S37) (cs : List Value) (h : k37.K W x cs) : k37.M W base okp x cs := by
  rw [k37_open h]
  exact k37_mkM _ _ _ x

end Go.Proofs.Ythncdeeakhilfaa.H
