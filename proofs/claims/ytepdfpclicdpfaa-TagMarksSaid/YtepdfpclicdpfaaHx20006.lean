-- written by hp.py for this claim, out of the kit's printer and texts of my own
import Derived.Test.YtepdfpclicdpfaaHx0
import Derived.Test.YtepdfpclicdpfaaHx21
import Derived.Test.YtepdfpclicdpfaaHx20001
import Derived.Test.YtepdfpclicdpfaaHx20002
import Derived.Test.YtepdfpclicdpfaaHx20004
import Derived.Test.YtepdfpclicdpfaaHx20005
import Derived.Test.YtepdfpclicdpfaaHx20005
import Derived.Lib.Hide
import Derived.Deep.LoopGhost
import Derived.Deep.DeepCutAuto
namespace Go.Proofs.Ytepdfpclicdpfaa.H
open Go.RowKit Go.Proofs.YtepdfpclicdpfaaW.PrintWords Go.Proofs.YtepdfpclicdpfaaW.PrintLast Go.Proofs.YtepdfpclicdpfaaW.PrintMore
attribute [local go_sem] max2_int min2_int max_two min_two max_three min_three max_four min_four   -- for this text's walks alone
set_option linter.unusedVariables false
set_option linter.unusedSimpArgs false

theorem elemB_dOk : ∀ (k : Nat) (e : S25), elemB k e = true → dOk k e
  | 0, _, h => by cases h
  | k + 1, e, h => by
    simp only [elemB, Bool.and_eq_true, List.all_eq_true] at h
    exact fun x hx => elemB_dOk k x (h.2 x hx)
/-- what Check answers -/
def checkI (e : S25) : Int := if elemB 16 e = true then (if (putL 16 e ⟨#[]⟩).length ≤ 16384 then 0 else 50) else 50
set_option maxRecDepth 100000 in
set_option maxHeartbeats 1000000 in
theorem check_calls (e : S25) (A2 A4 : Option Addr) (c2 c4 : Nat) (w : World) (hok : eOk 16 e) (hc2 : e.f2.length ≤ c2) (h2 : Kd.C k51 w A2 e.f2.length e.f2) (hc4 : e.f4.length ≤ c4) (h4 : Kd.C k25 w A4 e.f4.length e.f4) (hl : elemB 16 e = true → (putL 16 e ⟨#[]⟩).length ≤ 100000000) :
    Calls Try.prog 7 #[.agg #[.string e.f0, .string e.f1, .slice A2 e.f2.length c2, .string e.f3, .slice A4 e.f4.length c4]] w fun r W' => r = .returned (.int .i64 (checkI e)) ∧ Below w.heap.size w W' := by
  have kE := fun W hb => isElem_all 16 (by omega) e A2 A4 c2 c4 W hok hc2 (Kd.C_below h2 hb) hc4 (Kd.C_below h4 hb)
  have kP := fun W hb (h : elemB 16 e = true) => put_calls 16 e ⟨#[]⟩ A2 A4 c2 c4 W (elemB_dOk 16 e h) hc2 (Kd.C_below h2 hb) hc4 (Kd.C_below h4 hb) (hl h)
  have hz : checkI e = if elemB 16 e = true then (if (putL 16 e ⟨#[]⟩).length ≤ 16384 then 0 else 50) else 50 := rfl
  rw [hz]
  clear hz h2 h4 hok
  obtain ⟨P, hP⟩ : ∃ P, putL 16 e ⟨#[]⟩ = P := ⟨_, rfl⟩
  obtain ⟨v, hv⟩ : ∃ v, elemB 16 e = v := ⟨_, rfl⟩
  rw [hP] at kP hl ⊢
  rw [hv] at kE kP hl ⊢
  clear hP hv
  obtain ⟨R, hR⟩ : ∃ R : Int, (if v = true then (if P.length ≤ 16384 then 0 else 50) else 50) = R := ⟨_, rfl⟩
  have HR := Aside0.mk hR
  rw [hR]
  clear hR
  obtain ⟨f0, f1, f2, f3, f4⟩ := e
  simp only at kE kP hc2 hc4 ⊢
  obtain ⟨n2, hn2⟩ : ∃ n, f2.length = n := ⟨_, rfl⟩
  obtain ⟨n4, hn4⟩ : ∃ n, f4.length = n := ⟨_, rfl⟩
  rw [hn2] at kE kP hc2 ⊢
  rw [hn4] at kE kP hc4 ⊢
  have KE := Aside0.mk kE
  have KP := Aside0.mk kP
  clear hn2 hn4 kE kP
  have hu25 := Try.underlying25
  go_enter Try.func7, Try.ntmps7
  go_upto_region 1 with (first
    | ((with_reducible refine gate_dst (N := 1) rfl ?_); refine box_event ?hg (N := 1) ?hd (cs := #[.string f0, .string f1, .slice A2 n2 c2, .string f3, .slice A4 n4 c4]) (t := 25) ?hr ?_; (case hd => rfl); (case hg => rfl); (case hr => first | (go_simp; done) | (go_simp; rfl)); intro gb hg w1 hbox hb; have HBX := Aside0.mk hbox; have HB1 := Aside0.mk hb; clear hg hb hbox)
    | fail)
  have hz0 : w1.cell? ⟨gb, 0, none⟩ = some (.string f0) := (blk_cell HBX.out 0).trans rfl
  have hz1 : w1.cell? ⟨gb, 1, none⟩ = some (.string f1) := (blk_cell HBX.out 1).trans rfl
  have hz2 : w1.cell? ⟨gb, 2, none⟩ = some (.slice A2 n2 c2) := (blk_cell HBX.out 2).trans rfl
  have hz3 : w1.cell? ⟨gb, 3, none⟩ = some (.string f3) := (blk_cell HBX.out 3).trans rfl
  have hz4 : w1.cell? ⟨gb, 4, none⟩ = some (.slice A4 n4 c4) := (blk_cell HBX.out 4).trans rfl
  cases v with
  | false =>
    have hr0 : R = 50 := by rw [← HR.out]; rfl
    subst hr0
    go_wp2_with (first
      | (go_at_call 13; refine ((KE.out _ HB1.out).mono ?_); rintro e w2 ⟨rfl, hb2⟩))
    go_ret
    exact ⟨rfl, below_step HB1.out hb2⟩
  | true =>
    have hlen := hl rfl
    have hsz : (⟨P.toArray⟩ : ByteArray).size = P.length := by simp [ByteArray.size]
    have HSZ := Aside0.mk hsz
    by_cases hle : P.length ≤ 16384
    case pos =>
      have hs2 : (⟨P.toArray⟩ : ByteArray).size ≤ 16384 := by omega
      have hr0 : R = 0 := by rw [← HR.out, if_pos rfl, if_pos hle]
      subst hr0
      generalize (⟨P.toArray⟩ : ByteArray) = S at *
      clear hsz hl hle hlen
      have dA : decide ((S.size : Int) > 16384) = false := by simp; omega
      have dB : decide (16384 < S.size) = false := by simp; omega
      go_wp2_with (first
        | (go_at_call 13; refine ((KE.out _ HB1.out).mono ?_); rintro e w2 ⟨rfl, hb2⟩; have HBX2 := Aside0.mk (blk_below HBX.out hb2); have HB2 := Aside0.mk (below_step HB1.out hb2); have q0 : w2.cell? ⟨gb, 0, none⟩ = some (.string f0) := (blk_cell HBX2.out 0).trans rfl; have q1 : w2.cell? ⟨gb, 1, none⟩ = some (.string f1) := (blk_cell HBX2.out 1).trans rfl; have q2 : w2.cell? ⟨gb, 2, none⟩ = some (.slice A2 n2 c2) := (blk_cell HBX2.out 2).trans rfl; have q3 : w2.cell? ⟨gb, 3, none⟩ = some (.string f3) := (blk_cell HBX2.out 3).trans rfl; have q4 : w2.cell? ⟨gb, 4, none⟩ = some (.slice A4 n4 c4) := (blk_cell HBX2.out 4).trans rfl; clear hb2)
        | (go_at_call 9; refine ((KP.out _ HB2.out True.intro).mono ?_); rintro e w3 ⟨rfl, hb3⟩))
      go_ret
      exact ⟨rfl, below_step HB2.out hb3⟩
    case neg =>
      have hs2 : 16384 < (⟨P.toArray⟩ : ByteArray).size := by omega
      have hs3 : (⟨P.toArray⟩ : ByteArray).size ≤ 100000000 := by omega
      have hr0 : R = 50 := by rw [← HR.out, if_pos rfl, if_neg hle]
      subst hr0
      generalize (⟨P.toArray⟩ : ByteArray) = S at *
      clear hsz hl hle hlen
      have dA : decide ((S.size : Int) > 16384) = true := by simp; omega
      have dB : decide (16384 < S.size) = true := by simp; omega
      go_wp2_with (first
        | (go_at_call 13; refine ((KE.out _ HB1.out).mono ?_); rintro e w2 ⟨rfl, hb2⟩; have HBX2 := Aside0.mk (blk_below HBX.out hb2); have HB2 := Aside0.mk (below_step HB1.out hb2); have q0 : w2.cell? ⟨gb, 0, none⟩ = some (.string f0) := (blk_cell HBX2.out 0).trans rfl; have q1 : w2.cell? ⟨gb, 1, none⟩ = some (.string f1) := (blk_cell HBX2.out 1).trans rfl; have q2 : w2.cell? ⟨gb, 2, none⟩ = some (.slice A2 n2 c2) := (blk_cell HBX2.out 2).trans rfl; have q3 : w2.cell? ⟨gb, 3, none⟩ = some (.string f3) := (blk_cell HBX2.out 3).trans rfl; have q4 : w2.cell? ⟨gb, 4, none⟩ = some (.slice A4 n4 c4) := (blk_cell HBX2.out 4).trans rfl; clear hb2)
        | (go_at_call 9; refine ((KP.out _ HB2.out True.intro).mono ?_); rintro e w3 ⟨rfl, hb3⟩))
      go_ret
      exact ⟨rfl, below_step HB2.out hb3⟩
abbrev SameAt (k : Nat) : Prop := ∀ (a b : S25) (A2 A4 B2 B4 : Option Addr) (c2 c4 d2 d4 : Nat) (W : World), dOk k a → a.f2.length ≤ c2 → Kd.C k51 W A2 a.f2.length a.f2 → a.f4.length ≤ c4 → Kd.C k25 W A4 a.f4.length a.f4 →
      b.f2.length ≤ d2 → Kd.C k51 W B2 b.f2.length b.f2 → b.f4.length ≤ d4 → Kd.C k25 W B4 b.f4.length b.f4 → eOk k a →
      Calls Try.prog 10 #[.agg #[.string a.f0, .string a.f1, .slice A2 a.f2.length c2, .string a.f3, .slice A4 a.f4.length c4], .agg #[.string b.f0, .string b.f1, .slice B2 b.f2.length d2, .string b.f3, .slice B4 b.f4.length d4]] W
        fun r W' => r = .returned (.bool (sameF k a b)) ∧ Below W.heap.size W W'
set_option maxRecDepth 100000 in
set_option maxHeartbeats 2000000 in
theorem same_succ (k : Nat) (hS : SameAt k) : SameAt (k + 1) := by
  intro a b A2 A4 B2 B4 c2 c4 d2 d4 w hd hc2 h2 hc4 h4 hd2 g2 hd4 g4 hok
  obtain ⟨f0, f1, f2, f3, f4⟩ := a
  obtain ⟨g0, g1, g2', g3, g4'⟩ := b
  simp only at hc2 h2 hc4 h4 hd2 g2 hd4 g4 ⊢
  obtain ⟨⟨_, _, _, l2, l4⟩, _, hkids⟩ := hok
  simp only at l2 l4 hkids
  have kA := fun W (hb : Below w.heap.size w W) => api_Attr.calls (f2.length + 1) A2 c2 f2 B2 d2 g2' _ W (Kd.C_below h2 hb) hc2 (Kd.C_below g2 hb) hd2 (api_Attr_f f2 g2' (by omega))
  have kK := fun W (hb : Below w.heap.size w W) => eqf_calls k hS f4 g4' A4 B4 c4 d4 W (Kd.C_below h4 hb) (Kd.C_below g4 hb) hd l4 hkids
  have hz : sameF (k + 1) ⟨f0, f1, f2, f3, f4⟩ ⟨g0, g1, g2', g3, g4'⟩ = ((f0.toList == g0.toList) && (f1.toList == g1.toList) && (f3.toList == g3.toList) && listEq attrEq f2 g2' && listEq (sameF k) f4 g4') := rfl
  rw [hz]
  obtain ⟨n2, hn2⟩ : ∃ n, f2.length = n := ⟨_, rfl⟩
  obtain ⟨n4, hn4⟩ : ∃ n, f4.length = n := ⟨_, rfl⟩
  obtain ⟨m2, hm2⟩ : ∃ n, g2'.length = n := ⟨_, rfl⟩
  obtain ⟨m4, hm4⟩ : ∃ n, g4'.length = n := ⟨_, rfl⟩
  obtain ⟨va, hva⟩ : ∃ v, listEq attrEq f2 g2' = v := ⟨_, rfl⟩
  obtain ⟨vk, hvk⟩ : ∃ v, listEq (sameF k) f4 g4' = v := ⟨_, rfl⟩
  rw [hn2, hm2, hva] at kA
  rw [hn4, hm4, hvk] at kK
  rw [hn2, hn4, hm2, hm4, hva, hvk]
  have KA := Aside0.mk kA
  have KK := Aside0.mk kK
  clear kA kK hz hn2 hn4 hm2 hm4 hva hvk h2 h4 g2 g4 hkids hS hd l2 l4 hc2 hc4 hd2 hd4
  have hu25 := Try.underlying25
  go_enter Try.func10, Try.ntmps10
  go_upto_region 1 with (first
    | ((with_reducible refine gate_dst (N := 2) rfl ?_); refine box_event ?hg (N := 2) ?hd (cs := #[.string f0, .string f1, .slice A2 n2 c2, .string f3, .slice A4 n4 c4]) (t := 25) ?hr ?_; (case hd => rfl); (case hg => rfl); (case hr => first | (go_simp; done) | (go_simp; rfl)); intro ga hg w1 hbox hb; have HBXa := Aside0.mk hbox; have HBa := Aside0.mk hb; clear hg hb hbox)
    | ((with_reducible refine gate_dst (N := 3) rfl ?_); refine box_event ?hg (N := 3) ?hd (cs := #[.string g0, .string g1, .slice B2 m2 d2, .string g3, .slice B4 m4 d4]) (t := 25) ?hr ?_; (case hd => rfl); (case hg => rfl); (case hr => first | (go_simp; done) | (go_simp; rfl)); intro gb hg w2 hbox hb; have HBXb := Aside0.mk hbox; have HBb := Aside0.mk hb; clear hg hb hbox))
  have HXA := Aside0.mk (blk_below HBXa.out HBb.out)
  have HBW := Aside0.mk (below_step HBa.out HBb.out)
  have hx0 : w2.cell? ⟨ga, 0, none⟩ = some (.string f0) := (blk_cell HXA.out 0).trans rfl
  have hx1 : w2.cell? ⟨ga, 1, none⟩ = some (.string f1) := (blk_cell HXA.out 1).trans rfl
  have hx2 : w2.cell? ⟨ga, 2, none⟩ = some (.slice A2 n2 c2) := (blk_cell HXA.out 2).trans rfl
  have hx3 : w2.cell? ⟨ga, 3, none⟩ = some (.string f3) := (blk_cell HXA.out 3).trans rfl
  have hx4 : w2.cell? ⟨ga, 4, none⟩ = some (.slice A4 n4 c4) := (blk_cell HXA.out 4).trans rfl
  have hy0 : w2.cell? ⟨gb, 0, none⟩ = some (.string g0) := (blk_cell HBXb.out 0).trans rfl
  have hy1 : w2.cell? ⟨gb, 1, none⟩ = some (.string g1) := (blk_cell HBXb.out 1).trans rfl
  have hy2 : w2.cell? ⟨gb, 2, none⟩ = some (.slice B2 m2 d2) := (blk_cell HBXb.out 2).trans rfl
  have hy3 : w2.cell? ⟨gb, 3, none⟩ = some (.string g3) := (blk_cell HBXb.out 3).trans rfl
  have hy4 : w2.cell? ⟨gb, 4, none⟩ = some (.slice B4 m4 d4) := (blk_cell HBXb.out 4).trans rfl
  cases e0 : (f0.toList == g0.toList) with
  | false =>
    go_wp2_with (fail)
    go_ret
    exact ⟨by simp, HBW.out⟩
  | true =>
    cases e1 : (f1.toList == g1.toList) with
    | false =>
      go_wp2_with (fail)
      go_ret
      exact ⟨by simp, HBW.out⟩
    | true =>
      cases e3 : (f3.toList == g3.toList) with
      | false =>
        go_wp2_with (fail)
        go_ret
        exact ⟨by simp, HBW.out⟩
      | true =>
        cases va with
        | false =>
          go_wp2_with (first | (go_at_call 21; refine ((KA.out _ HBW.out).mono ?_); rintro e w' ⟨rfl, ⟨nd, rfl⟩⟩))
          go_ret
          exact ⟨by simp, pw_below_drewN HBW.out nd⟩
        | true =>
          go_wp2_with (first | (go_at_call 21; refine ((KA.out _ HBW.out).mono ?_); rintro e w' ⟨rfl, ⟨nd, rfl⟩⟩) | (go_at_call 22; refine ((KK.out _ (pw_below_drewN HBW.out nd)).mono ?_); rintro e w4 ⟨rfl, hb4⟩))
          go_ret
          exact ⟨by simp [beq_iff_eq.1 e0, beq_iff_eq.1 e1, beq_iff_eq.1 e3], below_step (pw_below_drewN HBW.out nd) hb4⟩
theorem same_all : ∀ k : Nat, SameAt k
  | 0 => fun _ _ _ _ _ _ _ _ _ _ _ hd => hd.elim
  | k + 1 => same_succ k (same_all k)

end Go.Proofs.Ytepdfpclicdpfaa.H
