/- TlvOrder is true of every input: the Go function is walked, and what it computes is shown to be true. Conditions: none beyond the given row's. -/
import Derived.Test.YtndcpbiofhclhaaRows
import Derived.Test.YtndcpbiofhclhaaHx11
import Derived.Test.YtndcpbiofhclhaaGood
import Derived.Test.YtndcpbiofhclhaaPureTlvOrder
import Derived.WalkKit
import Derived.ProofKit
import Derived.OpenShut
import Derived.ShutString
import Derived.ChangeOld
import Derived.Below
import Derived.SizedLaws
namespace Go.Proofs.Ytndcpbiofhclhaa.tlvOrder
open Go.ChangeShapes Go.WideShapes Go.ChangeAt Go.RowKit Go.Proofs.YtndcpbiofhclhaaW.PrintWords Go.Proofs.Ytndcpbiofhclhaa.Opens Go.Proofs.Ytndcpbiofhclhaa.H
open Go.ChangeMaps (open_string shut_string)
theorem own : ownKnob Try.prog.godebug = none := by kernel_rfl
theorem laidOut : laidOutB Try.prog = true := by kernel_rfl
set_option maxRecDepth 100000 in
theorem lifted (os : Os) (started : os.Started) (H : Type) (enc : TypeId × Value → H) :
    ReturnsInHanded {} Try.checked os 11 .any (Rows.tlvOrderSpec.pre6 enc Try.prog Try.f11 Rows.tlvOrderRow.domain false) (Rows.tlvOrderSpec.post enc Try.prog Try.f11 false true false false) := by
  refine returnsInHanded_of_change_sized (C := Try.checked) own started (by kernel_rfl) Try.func11
    (ChangeSpec.witness6 (enc := enc) (C := Try.checked) false ⟨#[], #[.int .i64 0, .int .i64 0, .int .i64 0, .slice none 0 0, .slice none 0 0], []⟩ 8 (by kernel_rfl) (by kernel_rfl) (by kernel_rfl) (by kernel_rfl)) ?_
  intro W base args ds gs before hval0 hW hcnd hsz0 _
  have hsz : (DataW.weightsEach Try.prog (Try.f11.params.toList ++ Rows.tlvOrderSpec.plain.varTypes Try.prog) (ds ++ gs)).all (· ≤ reachBytes) = true := hsz0
  have hval : ∀ (j : Nat) t v, Try.f11.params[j]? = some t → args[j]? = some v → Value.okWide Try.prog W .any base t v := hval0
  have hW' := hW
  obtain ⟨p, q, hA0, hV, rfl, hfz, hnd⟩ := hW
  have hA : DataW.TrodAll enc Try.prog W 0 (fun _ => true) true Try.f11.params.toList args.toList ds p := hA0
  rw [Try.params11] at hA hval hsz
  obtain ⟨v0, vs0, d0, ds0, p0, q0, hargs, rfl, rfl, h0, r0⟩ := trodAll_cons hA
  obtain ⟨v1, vs1, d1, ds1, p1, q1, rfl, rfl, rfl, h1, r1⟩ := trodAll_cons r0
  obtain ⟨v2, vs2, d2, ds2, p2, q2, rfl, rfl, rfl, h2, r2⟩ := trodAll_cons r1
  obtain ⟨v3, vs3, d3, ds3, p3, q3, rfl, rfl, rfl, h3, r3⟩ := trodAll_cons r2
  obtain ⟨v4, vs4, d4, ds4, p4, q4, rfl, rfl, rfl, h4, r4⟩ := trodAll_cons r3
  obtain ⟨rfl, rfl, rfl⟩ := trodAll_nil r4
  obtain rfl : args = #[v0, v1, v2, v3, v4] := by cases args; simp_all
  obtain ⟨rfl, rfl⟩ := trodVars_none hV
  have k0 := h0
  have lt0 : ∀ x ∈ p0, x.block < W.heap.size := by obtain ⟨m, hm⟩ := k0; exact DataW.trod_lt m _ _ _ hm
  obtain ⟨x0, hx0, g0⟩ := opens_arg (opens_int Try.underlying2) hsz (j := 0) (t := 2) rfl rfl h0
  obtain rfl : v0 = .int .i64 x0 := by
    obtain ⟨y0, rfl, _⟩ := open_int Try.underlying2 (hval 0 2 v0 rfl rfl) h0
    have e0 : ([.int .i64 y0] : List Value) = [.int .i64 x0] := hx0
    exact (List.cons.inj e0).1
  have k1 := h1
  have lt1 : ∀ x ∈ p1, x.block < W.heap.size := by obtain ⟨m, hm⟩ := k1; exact DataW.trod_lt m _ _ _ hm
  obtain ⟨x1, hx1, g1⟩ := opens_arg (opens_int Try.underlying2) hsz (j := 1) (t := 2) rfl rfl h1
  obtain rfl : v1 = .int .i64 x1 := by
    obtain ⟨y1, rfl, _⟩ := open_int Try.underlying2 (hval 1 2 v1 rfl rfl) h1
    have e1 : ([.int .i64 y1] : List Value) = [.int .i64 x1] := hx1
    exact (List.cons.inj e1).1
  have k2 := h2
  have lt2 : ∀ x ∈ p2, x.block < W.heap.size := by obtain ⟨m, hm⟩ := k2; exact DataW.trod_lt m _ _ _ hm
  obtain ⟨x2, hx2, g2⟩ := opens_arg (opens_int Try.underlying3) hsz (j := 2) (t := 3) rfl rfl h2
  obtain rfl : v2 = .int .i64 x2 := by
    obtain ⟨y2, rfl, _⟩ := open_int Try.underlying3 (hval 2 3 v2 rfl rfl) h2
    have e2 : ([.int .i64 y2] : List Value) = [.int .i64 x2] := hx2
    exact (List.cons.inj e2).1
  have k3 := h3
  have lt3 : ∀ x ∈ p3, x.block < W.heap.size := by obtain ⟨m, hm⟩ := k3; exact DataW.trod_lt m _ _ _ hm
  obtain ⟨x3, hx3, g3⟩ := opens_arg (opens_slice (B := 24) Try.underlying50 (by kernel_rfl) (by kernel_rfl) opens75) hsz (j := 3) (t := 50) rfl rfl h3
  obtain ⟨a3, len3, cap3, rfl⟩ := okWide_slice Try.underlying50 (hval 3 50 v3 rfl rfl)
  obtain ⟨A3, c3, he3, hl3, hc3⟩ := hx3
  obtain ⟨rfl, rfl, rfl⟩ : a3 = A3 ∧ len3 = x3.length ∧ cap3 = c3 := by simpa [Value.cells] using he3
  have k4 := h4
  have lt4 : ∀ x ∈ p4, x.block < W.heap.size := by obtain ⟨m, hm⟩ := k4; exact DataW.trod_lt m _ _ _ hm
  obtain ⟨x4, hx4, g4⟩ := opens_arg (opens_slice (B := 24) Try.underlying50 (by kernel_rfl) (by kernel_rfl) opens75) hsz (j := 4) (t := 50) rfl rfl h4
  obtain ⟨a4, len4, cap4, rfl⟩ := okWide_slice Try.underlying50 (hval 4 50 v4 rfl rfl)
  obtain ⟨A4, c4, he4, hl4, hc4⟩ := hx4
  obtain ⟨rfl, rfl, rfl⟩ : a4 = A4 ∧ len4 = x4.length ∧ cap4 = c4 := by simpa [Value.cells] using he4
  clear hA0 hval0 hsz0 hsz
  obtain ⟨k, hk⟩ := Pure.TlvOrder x0 x1 x2 x3 x4 g0 g1 g2 g3 g4
  refine (wharflaw11_TlvOrder.calls k x0 x1 x2 _ _ x3 _ _ x4 true W hc3 hl3 hc4 hl4 hk).mono fun e W' ⟨he, bel0⟩ => ?_
  have bel : Below W.heap.size W W' := bel0
  subst he
  exact ⟨_, rfl, _, _, _, [], _, [], hW', trodAll_mk1 (shut_bool Try.underlying4 _), (trodAll_cons_mk (Below.trod laidOut (by kernel_rfl) (of_decide_eq_true (by kernel_rfl)) k0 bel lt0) (trodAll_cons_mk (Below.trod laidOut (by kernel_rfl) (of_decide_eq_true (by kernel_rfl)) k1 bel lt1) (trodAll_cons_mk (Below.trod laidOut (by kernel_rfl) (of_decide_eq_true (by kernel_rfl)) k2 bel lt2) (trodAll_cons_mk (Below.trod laidOut (by kernel_rfl) (of_decide_eq_true (by kernel_rfl)) k3 bel lt3) (trodAll_cons_mk (Below.trod laidOut (by kernel_rfl) (of_decide_eq_true (by kernel_rfl)) k4 bel lt4) trodAll_mk0))))), rfl, bel.frame _, fun h => by cases h⟩
theorem over : Rows.tlvOrderRow.holds Try.pinned (OpenSpec.ofChange Rows.tlvOrderSpec) :=
  OpenClaim.holds_of_wide 11 Try.f11 rfl rfl rfl rfl rfl rfl rfl ⟨rfl, rfl, rfl, rfl, rfl⟩ rfl rfl rfl rfl rfl (by kernel_rfl) Try.func11 (by kernel_rfl)
    (of_decide_eq_true (by kernel_rfl)) (by unfold Func.isWrapper; first | (rw [if_pos (by decide +kernel)]; kernel_rfl) | (rw [if_neg (by decide +kernel)]; exact ⟨rfl, rfl⟩))
    (fun os started H enc _ => lifted os started H enc)
theorem proved : Rows.TlvOrderSaid := over
#print axioms proved
end Go.Proofs.Ytndcpbiofhclhaa.tlvOrder
namespace Go.Proofs.Ytndcpbiofhclhaa
/-- The row, under a short name, for the claim. -/
theorem tlvOrder_holds : Rows.TlvOrderSaid := tlvOrder.proved
end Go.Proofs.Ytndcpbiofhclhaa
