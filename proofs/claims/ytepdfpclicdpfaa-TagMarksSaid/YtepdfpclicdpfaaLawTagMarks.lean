/- TagMarks is true of every input: the Go function is walked, and what it computes is shown to be true. Conditions: none beyond the given row's. -/
import Derived.Test.YtepdfpclicdpfaaRows
import Derived.Test.YtepdfpclicdpfaaHx4
import Derived.Test.YtepdfpclicdpfaaGood
import Derived.Test.YtepdfpclicdpfaaPureTagMarks
import Derived.WalkKit
import Derived.ProofKit
import Derived.OpenShut
import Derived.ShutString
import Derived.ChangeOld
import Derived.Below
import Derived.SizedLaws
namespace Go.Proofs.Ytepdfpclicdpfaa.tagMarks
open Go.ChangeShapes Go.WideShapes Go.ChangeAt Go.RowKit Go.Proofs.YtepdfpclicdpfaaW.PrintWords Go.Proofs.Ytepdfpclicdpfaa.Opens Go.Proofs.Ytepdfpclicdpfaa.H
open Go.ChangeMaps (open_string shut_string)
theorem own : ownKnob Try.prog.godebug = none := by kernel_rfl
theorem laidOut : laidOutB Try.prog = true := by kernel_rfl
set_option maxRecDepth 100000 in
theorem lifted (os : Os) (started : os.Started) (H : Type) (enc : TypeId × Value → H) :
    ReturnsInHanded {} Try.checked os 4 .any (Rows.tagMarksSpec.pre6 enc Try.prog Try.f4 Rows.tagMarksRow.domain false) (Rows.tagMarksSpec.post enc Try.prog Try.f4 false true false false) := by
  refine returnsInHanded_of_change_sized (C := Try.checked) own started (by kernel_rfl) Try.func4
    (ChangeSpec.witness6 (enc := enc) (C := Try.checked) false ⟨#[], #[.string ByteArray.empty, .string ByteArray.empty], []⟩ 8 (by kernel_rfl) (by kernel_rfl) (by kernel_rfl) (by kernel_rfl)) ?_
  intro W base args ds gs before hval0 hW hcnd hsz0 _
  have hsz : (DataW.weightsEach Try.prog (Try.f4.params.toList ++ Rows.tagMarksSpec.plain.varTypes Try.prog) (ds ++ gs)).all (· ≤ reachBytes) = true := hsz0
  have hval : ∀ (j : Nat) t v, Try.f4.params[j]? = some t → args[j]? = some v → Value.okWide Try.prog W .any base t v := hval0
  have hW' := hW
  obtain ⟨p, q, hA0, hV, rfl, hfz, hnd⟩ := hW
  have hA : DataW.TrodAll enc Try.prog W 0 (fun _ => true) true Try.f4.params.toList args.toList ds p := hA0
  rw [Try.params4] at hA hval hsz
  obtain ⟨v0, vs0, d0, ds0, p0, q0, hargs, rfl, rfl, h0, r0⟩ := trodAll_cons hA
  obtain ⟨v1, vs1, d1, ds1, p1, q1, rfl, rfl, rfl, h1, r1⟩ := trodAll_cons r0
  obtain ⟨rfl, rfl, rfl⟩ := trodAll_nil r1
  obtain rfl : args = #[v0, v1] := by cases args; simp_all
  obtain ⟨rfl, rfl⟩ := trodVars_none hV
  have k0 := h0
  have lt0 : ∀ x ∈ p0, x.block < W.heap.size := by obtain ⟨m, hm⟩ := k0; exact DataW.trod_lt m _ _ _ hm
  obtain ⟨x0, hx0, g0⟩ := opens_arg (opens_string Try.underlying9) hsz (j := 0) (t := 9) rfl rfl h0
  obtain rfl : v0 = .string x0 := by
    obtain ⟨y0, rfl, _⟩ := open_string Try.underlying9 (hval 0 9 v0 rfl rfl) h0
    have e0 : ([.string y0] : List Value) = [.string x0] := hx0
    exact (List.cons.inj e0).1
  have k1 := h1
  have lt1 : ∀ x ∈ p1, x.block < W.heap.size := by obtain ⟨m, hm⟩ := k1; exact DataW.trod_lt m _ _ _ hm
  obtain ⟨x1, hx1, g1⟩ := opens_arg (opens_string Try.underlying9) hsz (j := 1) (t := 9) rfl rfl h1
  obtain rfl : v1 = .string x1 := by
    obtain ⟨y1, rfl, _⟩ := open_string Try.underlying9 (hval 1 9 v1 rfl rfl) h1
    have e1 : ([.string y1] : List Value) = [.string x1] := hx1
    exact (List.cons.inj e1).1
  clear hA0 hval0 hsz0 hsz
  obtain ⟨k, hk⟩ := Pure.TagMarks x0 x1 g0 g1
  refine (wharflaw05_TagMarks.callsT k x0 x1 true W  ⟨rfl⟩ hk).mono fun e W' ⟨he, bel0⟩ => ?_
  have bel : Below W.heap.size W W' := bel0
  subst he
  exact ⟨_, rfl, _, _, _, [], _, [], hW', trodAll_mk1 (shut_bool Try.underlying4 _), (trodAll_cons_mk (Below.trod laidOut (by kernel_rfl) (of_decide_eq_true (by kernel_rfl)) k0 bel lt0) (trodAll_cons_mk (Below.trod laidOut (by kernel_rfl) (of_decide_eq_true (by kernel_rfl)) k1 bel lt1) trodAll_mk0)), rfl, bel.frame _, fun h => by cases h⟩
theorem over : Rows.tagMarksRow.holds Try.pinned (OpenSpec.ofChange Rows.tagMarksSpec) :=
  OpenClaim.holds_of_wide 4 Try.f4 rfl rfl rfl rfl rfl rfl rfl ⟨rfl, rfl, rfl, rfl, rfl⟩ rfl rfl rfl rfl rfl (by kernel_rfl) Try.func4 (by kernel_rfl)
    (of_decide_eq_true (by kernel_rfl)) (by unfold Func.isWrapper; first | (rw [if_pos (by decide +kernel)]; kernel_rfl) | (rw [if_neg (by decide +kernel)]; exact ⟨rfl, rfl⟩))
    (fun os started H enc _ => lifted os started H enc)
theorem proved : Rows.TagMarksSaid := over
#print axioms proved
end Go.Proofs.Ytepdfpclicdpfaa.tagMarks
namespace Go.Proofs.Ytepdfpclicdpfaa
/-- The row, under a short name, for the claim. -/
theorem tagMarks_holds : Rows.TagMarksSaid := tagMarks.proved
end Go.Proofs.Ytepdfpclicdpfaa
