/- TlvBack is true of every input: the Go function is walked, and what it computes is shown to be true. Conditions: none beyond the given row's. -/
import Derived.Test.YtndcpbiofhclhaaRows
import Derived.Test.YtndcpbiofhclhaaHx10
import Derived.Test.YtndcpbiofhclhaaGood
import Derived.Test.YtndcpbiofhclhaaPureTlvBack
import Derived.WalkKit
import Derived.ProofKit
import Derived.OpenShut
import Derived.ShutString
import Derived.ChangeOld
import Derived.Below
import Derived.SizedLaws
namespace Go.Proofs.Ytndcpbiofhclhaa.tlvBack
open Go.ChangeShapes Go.WideShapes Go.ChangeAt Go.RowKit Go.Proofs.YtndcpbiofhclhaaW.PrintWords Go.Proofs.Ytndcpbiofhclhaa.Opens Go.Proofs.Ytndcpbiofhclhaa.H
open Go.ChangeMaps (open_string shut_string)
theorem own : ownKnob Try.prog.godebug = none := by kernel_rfl
theorem laidOut : laidOutB Try.prog = true := by kernel_rfl
set_option maxRecDepth 100000 in
theorem lifted (os : Os) (started : os.Started) (H : Type) (enc : TypeId × Value → H) :
    ReturnsInHanded {} Try.checked os 10 .any (Rows.tlvBackSpec.pre6 enc Try.prog Try.f10 Rows.tlvBackRow.domain false) (Rows.tlvBackSpec.post enc Try.prog Try.f10 false true false false) := by
  refine returnsInHanded_of_change_sized (C := Try.checked) own started (by kernel_rfl) Try.func10
    (ChangeSpec.witness6 (enc := enc) (C := Try.checked) false ⟨#[], #[.int .i64 0, .int .i64 0, .slice none 0 0, .string ByteArray.empty, .string ByteArray.empty, .int .i64 0], []⟩ 8 (by kernel_rfl) (by kernel_rfl) (by kernel_rfl) (by kernel_rfl)) ?_
  intro W base args ds gs before hval0 hW hcnd hsz0 _
  have hsz : (DataW.weightsEach Try.prog (Try.f10.params.toList ++ Rows.tlvBackSpec.plain.varTypes Try.prog) (ds ++ gs)).all (· ≤ reachBytes) = true := hsz0
  have hval : ∀ (j : Nat) t v, Try.f10.params[j]? = some t → args[j]? = some v → Value.okWide Try.prog W .any base t v := hval0
  have hW' := hW
  obtain ⟨p, q, hA0, hV, rfl, hfz, hnd⟩ := hW
  have hA : DataW.TrodAll enc Try.prog W 0 (fun _ => true) true Try.f10.params.toList args.toList ds p := hA0
  rw [Try.params10] at hA hval hsz
  obtain ⟨v0, vs0, d0, ds0, p0, q0, hargs, rfl, rfl, h0, r0⟩ := trodAll_cons hA
  obtain ⟨v1, vs1, d1, ds1, p1, q1, rfl, rfl, rfl, h1, r1⟩ := trodAll_cons r0
  obtain ⟨v2, vs2, d2, ds2, p2, q2, rfl, rfl, rfl, h2, r2⟩ := trodAll_cons r1
  obtain ⟨v3, vs3, d3, ds3, p3, q3, rfl, rfl, rfl, h3, r3⟩ := trodAll_cons r2
  obtain ⟨v4, vs4, d4, ds4, p4, q4, rfl, rfl, rfl, h4, r4⟩ := trodAll_cons r3
  obtain ⟨v5, vs5, d5, ds5, p5, q5, rfl, rfl, rfl, h5, r5⟩ := trodAll_cons r4
  obtain ⟨rfl, rfl, rfl⟩ := trodAll_nil r5
  obtain rfl : args = #[v0, v1, v2, v3, v4, v5] := by cases args; simp_all
  obtain ⟨rfl, rfl⟩ := trodVars_none hV
  have k0 := h0
  have lt0 : ∀ x ∈ p0, x.block < W.heap.size := by obtain ⟨m, hm⟩ := k0; exact DataW.trod_lt m _ _ _ hm
  obtain ⟨x0, hx0, g0⟩ := opens_arg (opens_int Try.underlying2) hsz (j := 0) (t := 2) rfl rfl h0
  obtain rfl : v0 = .int .i64 x0 := by
    obtain ⟨y0, rfl, _⟩ := open_int Try.underlying2 (hval 0 2 v0 rfl rfl) h0
    have e0 : ([.int .i64 y0] : List Value) = [.int .i64 x0] := hx0
    exact (List.cons.inj e0).1
  have k1 := h1
  have lt1 : ∀ x ∈ p1, x.block < W.heap.size := by obtain ⟨m, hm⟩ := k1; exact DataW.trod_lt m _ _ _ hm
  obtain ⟨x1, hx1, g1⟩ := opens_arg (opens_int Try.underlying3) hsz (j := 1) (t := 3) rfl rfl h1
  obtain rfl : v1 = .int .i64 x1 := by
    obtain ⟨y1, rfl, _⟩ := open_int Try.underlying3 (hval 1 3 v1 rfl rfl) h1
    have e1 : ([.int .i64 y1] : List Value) = [.int .i64 x1] := hx1
    exact (List.cons.inj e1).1
  have k2 := h2
  have lt2 : ∀ x ∈ p2, x.block < W.heap.size := by obtain ⟨m, hm⟩ := k2; exact DataW.trod_lt m _ _ _ hm
  obtain ⟨x2, hx2, g2⟩ := opens_arg (opens_slice (B := 24) Try.underlying50 (by kernel_rfl) (by kernel_rfl) opens75) hsz (j := 2) (t := 50) rfl rfl h2
  obtain ⟨a2, len2, cap2, rfl⟩ := okWide_slice Try.underlying50 (hval 2 50 v2 rfl rfl)
  obtain ⟨A2, c2, he2, hl2, hc2⟩ := hx2
  obtain ⟨rfl, rfl, rfl⟩ : a2 = A2 ∧ len2 = x2.length ∧ cap2 = c2 := by simpa [Value.cells] using he2
  have k3 := h3
  have lt3 : ∀ x ∈ p3, x.block < W.heap.size := by obtain ⟨m, hm⟩ := k3; exact DataW.trod_lt m _ _ _ hm
  obtain ⟨x3, hx3, g3⟩ := opens_arg (opens_string Try.underlying9) hsz (j := 3) (t := 9) rfl rfl h3
  obtain rfl : v3 = .string x3 := by
    obtain ⟨y3, rfl, _⟩ := open_string Try.underlying9 (hval 3 9 v3 rfl rfl) h3
    have e3 : ([.string y3] : List Value) = [.string x3] := hx3
    exact (List.cons.inj e3).1
  have k4 := h4
  have lt4 : ∀ x ∈ p4, x.block < W.heap.size := by obtain ⟨m, hm⟩ := k4; exact DataW.trod_lt m _ _ _ hm
  obtain ⟨x4, hx4, g4⟩ := opens_arg (opens_string Try.underlying9) hsz (j := 4) (t := 9) rfl rfl h4
  obtain rfl : v4 = .string x4 := by
    obtain ⟨y4, rfl, _⟩ := open_string Try.underlying9 (hval 4 9 v4 rfl rfl) h4
    have e4 : ([.string y4] : List Value) = [.string x4] := hx4
    exact (List.cons.inj e4).1
  have k5 := h5
  have lt5 : ∀ x ∈ p5, x.block < W.heap.size := by obtain ⟨m, hm⟩ := k5; exact DataW.trod_lt m _ _ _ hm
  obtain ⟨x5, hx5, g5⟩ := opens_arg (opens_int Try.underlying3) hsz (j := 5) (t := 3) rfl rfl h5
  obtain rfl : v5 = .int .i64 x5 := by
    obtain ⟨y5, rfl, _⟩ := open_int Try.underlying3 (hval 5 3 v5 rfl rfl) h5
    have e5 : ([.int .i64 y5] : List Value) = [.int .i64 x5] := hx5
    exact (List.cons.inj e5).1
  clear hA0 hval0 hsz0 hsz
  obtain ⟨k, hk⟩ := Pure.TlvBack x0 x1 x2 x3 x4 x5 g0 g1 g2 g3 g4 g5
  refine (wharflaw11_TlvBack.calls k x0 x1 _ _ x2 x3 x4 x5 true W hc2 hl2 hk).mono fun e W' ⟨he, bel0⟩ => ?_
  have bel : Below W.heap.size W W' := bel0
  subst he
  exact ⟨_, rfl, _, _, _, [], _, [], hW', trodAll_mk1 (shut_bool Try.underlying4 _), (trodAll_cons_mk (Below.trod laidOut (by kernel_rfl) (of_decide_eq_true (by kernel_rfl)) k0 bel lt0) (trodAll_cons_mk (Below.trod laidOut (by kernel_rfl) (of_decide_eq_true (by kernel_rfl)) k1 bel lt1) (trodAll_cons_mk (Below.trod laidOut (by kernel_rfl) (of_decide_eq_true (by kernel_rfl)) k2 bel lt2) (trodAll_cons_mk (Below.trod laidOut (by kernel_rfl) (of_decide_eq_true (by kernel_rfl)) k3 bel lt3) (trodAll_cons_mk (Below.trod laidOut (by kernel_rfl) (of_decide_eq_true (by kernel_rfl)) k4 bel lt4) (trodAll_cons_mk (Below.trod laidOut (by kernel_rfl) (of_decide_eq_true (by kernel_rfl)) k5 bel lt5) trodAll_mk0)))))), rfl, bel.frame _, fun h => by cases h⟩
theorem over : Rows.tlvBackRow.holds Try.pinned (OpenSpec.ofChange Rows.tlvBackSpec) :=
  OpenClaim.holds_of_wide 10 Try.f10 rfl rfl rfl rfl rfl rfl rfl ⟨rfl, rfl, rfl, rfl, rfl⟩ rfl rfl rfl rfl rfl (by kernel_rfl) Try.func10 (by kernel_rfl)
    (of_decide_eq_true (by kernel_rfl)) (by unfold Func.isWrapper; first | (rw [if_pos (by decide +kernel)]; kernel_rfl) | (rw [if_neg (by decide +kernel)]; exact ⟨rfl, rfl⟩))
    (fun os started H enc _ => lifted os started H enc)
theorem proved : Rows.TlvBackSaid := over
#print axioms proved
end Go.Proofs.Ytndcpbiofhclhaa.tlvBack
namespace Go.Proofs.Ytndcpbiofhclhaa
/-- The row, under a short name, for the claim. -/
theorem tlvBack_holds : Rows.TlvBackSaid := tlvBack.proved
end Go.Proofs.Ytndcpbiofhclhaa
