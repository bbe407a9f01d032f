/- ShadeShort is true of every input of bulk at most 1048576: the Go function is walked, and what it computes is shown to be true. Conditions: none beyond the given row's. -/
import Derived.Test.YtaaoaikfkgbfhaaRows
import Derived.Test.YtaaoaikfkgbfhaaHx6
import Derived.Test.YtaaoaikfkgbfhaaGood
import Derived.Test.YtaaoaikfkgbfhaaPureShadeShort
import Derived.WalkKit
import Derived.ProofKit
import Derived.OpenShut
import Derived.ShutString
import Derived.ChangeOld
import Derived.Below
import Derived.SizedLaws
import Derived.JoinedCond
import Derived.Deep.CondSized
namespace Go.Proofs.Ytaaoaikfkgbfhaa.shadeShort
open Go.ChangeShapes Go.WideShapes Go.ChangeAt Go.RowKit Go.Proofs.YtaaoaikfkgbfhaaW.PrintWords Go.Proofs.Ytaaoaikfkgbfhaa.Opens Go.Proofs.Ytaaoaikfkgbfhaa.H
open Go.ChangeMaps (open_string shut_string)
theorem own : ownKnob Try.prog.godebug = none := by kernel_rfl
theorem laidOut : laidOutB Try.prog = true := by kernel_rfl
set_option maxRecDepth 100000 in
theorem lifted (os : Os) (started : os.Started) (H : Type) (enc : TypeId × Value → H) (F : Stop.Interp) :
    ReturnsInHanded {} Try.checked os 6 .any ((Rows.OpenSpec.upto Rows.shadeShortSpec).pre6 enc Try.prog Try.f6 Rows.shadeShortUptoRow.domain false) (((Rows.OpenSpec.upto Rows.shadeShortSpec).at F).post enc Try.prog Try.f6 false true false false) := by
  refine returnsInHanded_of_cond_sized (C := Try.checked) (s := (Rows.OpenSpec.upto Rows.shadeShortSpec)) (k := Rows.uptoSmall) rfl own started (by kernel_rfl) Try.func6
    (OpenSpec.witness (enc := enc) (C := Try.checked) (s := (Rows.OpenSpec.upto Rows.shadeShortSpec)) (k := Rows.uptoSmall) rfl false ⟨#[], #[.string ByteArray.empty, .int .i64 0, .int .i64 0], []⟩ 8 (by kernel_rfl) (by kernel_rfl) (by kernel_rfl) (x := ([.lit (.string []), .lit (.int .i64 0), .lit (.int .i64 0)], [], [])) (by kernel_rfl) rfl (by kernel_rfl)) ?_
  intro W base args ds gs before hval0 hW hcnd hbk0 hsz0 _
  have hbk : Rows.uptoBulkAll (ds ++ gs) ≤ 1048576 := of_decide_eq_true hbk0
  have hsz : (DataW.weightsEach Try.prog (Try.f6.params.toList ++ Rows.shadeShortSpec.plain.varTypes Try.prog) (ds ++ gs)).all (· ≤ reachBytes) = true := hsz0
  have hval : ∀ (j : Nat) t v, Try.f6.params[j]? = some t → args[j]? = some v → Value.okWide Try.prog W .any base t v := hval0
  have hW' := hW
  obtain ⟨p, q, hA0, hV, rfl, hfz, hnd⟩ := hW
  have hA : DataW.TrodAll enc Try.prog W 0 (fun _ => true) true Try.f6.params.toList args.toList ds p := hA0
  rw [Try.params6] at hA hval hsz
  obtain ⟨v0, vs0, d0, ds0, p0, q0, hargs, rfl, rfl, h0, r0⟩ := trodAll_cons hA
  obtain ⟨v1, vs1, d1, ds1, p1, q1, rfl, rfl, rfl, h1, r1⟩ := trodAll_cons r0
  obtain ⟨v2, vs2, d2, ds2, p2, q2, rfl, rfl, rfl, h2, r2⟩ := trodAll_cons r1
  obtain ⟨rfl, rfl, rfl⟩ := trodAll_nil r2
  obtain rfl : args = #[v0, v1, v2] := by cases args; simp_all
  obtain ⟨rfl, rfl⟩ := trodVars_none hV
  have k0 := h0
  have lt0 : ∀ x ∈ p0, x.block < W.heap.size := by obtain ⟨m, hm⟩ := k0; exact DataW.trod_lt m _ _ _ hm
  obtain ⟨x0, hx0, g0⟩ := opens_arg (opens_string Try.underlying9) hsz (j := 0) (t := 9) rfl rfl h0
  obtain rfl : v0 = .string x0 := by
    obtain ⟨y0, rfl, _⟩ := open_string Try.underlying9 (hval 0 9 v0 rfl rfl) h0
    have e0 : ([.string y0] : List Value) = [.string x0] := hx0
    exact (List.cons.inj e0).1
  have hb0 : d0 = .lit (.string x0.data.toList) := by
    obtain ⟨y0, hy, hd, _⟩ := open_string Try.underlying9 (hval 0 9 (.string x0) rfl rfl) h0
    obtain rfl := Value.string.inj hy
    exact hd
  have k1 := h1
  have lt1 : ∀ x ∈ p1, x.block < W.heap.size := by obtain ⟨m, hm⟩ := k1; exact DataW.trod_lt m _ _ _ hm
  obtain ⟨x1, hx1, g1⟩ := opens_arg (opens_int Try.underlying3) hsz (j := 1) (t := 3) rfl rfl h1
  obtain rfl : v1 = .int .i64 x1 := by
    obtain ⟨y1, rfl, _⟩ := open_int Try.underlying3 (hval 1 3 v1 rfl rfl) h1
    have e1 : ([.int .i64 y1] : List Value) = [.int .i64 x1] := hx1
    exact (List.cons.inj e1).1
  have k2 := h2
  have lt2 : ∀ x ∈ p2, x.block < W.heap.size := by obtain ⟨m, hm⟩ := k2; exact DataW.trod_lt m _ _ _ hm
  obtain ⟨x2, hx2, g2⟩ := opens_arg (opens_int Try.underlying3) hsz (j := 2) (t := 3) rfl rfl h2
  obtain rfl : v2 = .int .i64 x2 := by
    obtain ⟨y2, rfl, _⟩ := open_int Try.underlying3 (hval 2 3 v2 rfl rfl) h2
    have e2 : ([.int .i64 y2] : List Value) = [.int .i64 x2] := hx2
    exact (List.cons.inj e2).1
  simp only [List.append_nil, Rows.uptoBulkAll, hb0, Rows.uptoBulk] at hbk
  have b0 : x0.size ≤ 1048575 := by
    have : x0.data.toList.length = x0.size := rfl
    omega
  clear hA0 hval0 hsz0 hsz
  obtain ⟨k, hk⟩ := Pure.ShadeShort x0 x1 x2 b0 g1 g2
  refine (wharflaw16_ShadeShort.callsT k x0 x1 x2 true W  ⟨rfl⟩ hk).mono fun e W' ⟨he, bel0⟩ => ?_
  have bel : Below W.heap.size W W' := bel0
  subst he
  exact ⟨_, rfl, _, _, _, [], _, [], hW', trodAll_mk1 (shut_bool Try.underlying4 _), (trodAll_cons_mk (Below.trod laidOut (by kernel_rfl) (of_decide_eq_true (by kernel_rfl)) k0 bel lt0) (trodAll_cons_mk (Below.trod laidOut (by kernel_rfl) (of_decide_eq_true (by kernel_rfl)) k1 bel lt1) (trodAll_cons_mk (Below.trod laidOut (by kernel_rfl) (of_decide_eq_true (by kernel_rfl)) k2 bel lt2) trodAll_mk0))), rfl, bel.frame _, fun h => by cases h⟩
theorem over : Rows.shadeShortUptoRow.holds Try.pinned (Rows.OpenSpec.upto Rows.shadeShortSpec) :=
  OpenClaim.holds_of_cond 6 Try.f6 rfl rfl rfl rfl rfl rfl rfl ⟨rfl, rfl, rfl, rfl, rfl⟩ rfl rfl rfl rfl rfl (by kernel_rfl) Try.func6 (by kernel_rfl)
    (of_decide_eq_true (by kernel_rfl)) (by unfold Func.isWrapper; first | (rw [if_pos (by decide +kernel)]; kernel_rfl) | (rw [if_neg (by decide +kernel)]; exact ⟨rfl, rfl⟩))
    (fun os started H enc _ F => lifted os started H enc F)
theorem proved : Rows.ShadeShortUptoSaid := over
#print axioms proved
end Go.Proofs.Ytaaoaikfkgbfhaa.shadeShort
namespace Go.Proofs.Ytaaoaikfkgbfhaa
/-- The row, under a short name, for the claim. -/
theorem shadeShortUpto_holds : Rows.ShadeShortUptoSaid := shadeShort.proved
end Go.Proofs.Ytaaoaikfkgbfhaa
