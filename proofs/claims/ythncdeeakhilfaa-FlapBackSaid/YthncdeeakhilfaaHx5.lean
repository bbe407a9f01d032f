-- written by hp.py for this claim, out of the kit's printer and texts of my own
import Derived.Test.YthncdeeakhilfaaHx0
import Derived.Test.YthncdeeakhilfaaHx10
import Derived.Test.YthncdeeakhilfaaHx14
import Derived.Test.YthncdeeakhilfaaHx15
import Derived.Test.YthncdeeakhilfaaHx18
import Derived.Test.YthncdeeakhilfaaHx20
import Derived.Test.YthncdeeakhilfaaHx20001
import Derived.Test.YthncdeeakhilfaaHx20002
import Derived.Test.YthncdeeakhilfaaHx20003
import Derived.Test.YthncdeeakhilfaaHx20003
import Derived.Test.YthncdeeakhilfaaHx18
import Derived.Test.YthncdeeakhilfaaHx15
import Derived.Test.YthncdeeakhilfaaHx10
import Derived.Test.YthncdeeakhilfaaHx14
import Derived.Test.YthncdeeakhilfaaHx20
import Derived.Deep.QuietTactic
import Derived.BigQuiet
import Derived.WalkKit
namespace Go.Proofs.Ythncdeeakhilfaa.H
open Go.RowKit Go.Proofs.YthncdeeakhilfaaW.PrintWords Go.Proofs.YthncdeeakhilfaaW.PrintLast Go.Proofs.YthncdeeakhilfaaW.PrintMore
attribute [local go_sem] max2_int min2_int max_two min_two max_three min_three max_four min_four   -- for this text's walks alone
set_option linter.unusedVariables false
set_option linter.unusedSimpArgs false

def flapBackPut (k : Nat) : List S37 → Int → ByteArray → List S37 → Option (Option (ByteArray × List S37))
  | [], _, s, want => some (some (s, want))
  | f :: t, seq, s, want => if (s.size : Int) ≤ 30000 then
      (flap_Put.f k f.f0 seq f.f2).bind fun p => if p.2 = 0 then (if s.size + p.1.size ≤ 1000000 ∧ (want.length + 1) * 32 ≤ 140737488355328 then flapBackPut k t (flapNext seq) (s ++ p.1) (want ++ [⟨f.f0, seq, f.f2⟩]) else none) else some none
    else some (some (s, want))
def flapCutAt (c : Int) (s : ByteArray) : Nat := (mx 0 (mn c (s.size : Int))).toNat
def flapBackFeed : List Int → FlapSt → ByteArray → List S37 → FlapSt × ByteArray × List S37
  | [], st, s, got => (st, s, got)
  | c :: t, st, s, got => flapBackFeed t (flapRun (Bytes.L (s.extract 0 (flapCutAt c s))) st []).1 (s.extract (flapCutAt c s) s.size) (got ++ (flapRun (Bytes.L (s.extract 0 (flapCutAt c s))) st []).2)
def flapBackEnd (k : Nat) (P : FlapSt × ByteArray × List S37) (want : List S37) : Option Bool :=
  (wharfref12_Same.f k (P.2.2 ++ (flapRun (Bytes.L P.2.1) P.1 []).2) want).bind fun b => if b = true ∧ (flapRun (Bytes.L P.2.1) P.1 []).1.err = 0 ∧ flapLeft (flapRun (Bytes.L P.2.1) P.1 []).1 = 0 then some true else none
/-- what the law answers where it is true (else none) -/
def wharflaw12_FlapBack.f (k : Nat) (l : List S37) (first : Int) (cuts : List Int) : Option Bool :=
  if (l.length : Int) > 60 then some true else if (cuts.length : Int) > 60 then some true else if first < 0 then some true else if 65535 < first then some true
  else (flapBackPut k l first ⟨#[]⟩ []).bind fun o => match o with
    | none => some true
    | some (s, want) => if s.size ≤ 1000000 then flapBackEnd k (flapBackFeed cuts flapNew s []) want else none
set_option maxRecDepth 100000 in
set_option maxHeartbeats 8000000 in
theorem wharflaw12_FlapBack.calls (k : Nat) (A0 : Option Addr) (c0 : Nat) (l0 : List S37) (first : Int) (A2 : Option Addr) (c2 : Nat) (l2 : List Int) (r : Bool) (w : World) (hr0 : Kd.C k37 w A0 l0.length l0) (hc0 : l0.length ≤ c0) (hr2 : Kd.C (Kd.int .i64) w A2 l2.length l2) (hc2 : l2.length ≤ c2) (h : wharflaw12_FlapBack.f k l0 first l2 = some r) :
    Calls Try.prog 5 #[.slice A0 l0.length c0, .int .i64 first, .slice A2 l2.length c2] w fun e w' => e = .returned (.bool r) ∧ Below w.heap.size w w' := by
  unfold wharflaw12_FlapBack.f at h
  have kl := fun W => wharflaw12_live.calls true W rfl
  have kn := fun a W => wharflaw12_num.calls a a W rfl
  have HR0 := Aside0.mk hr0
  have HR2 := Aside0.mk hr2
  clear hr0 hc0 hr2 hc2
  by_cases g0 : (l0.length : Int) > 60
  · rw [if_pos g0] at h
    obtain rfl := Option.some.inj h
    have d0 : decide ((60 : Int) < (l0.length : Int)) = true := decide_eq_true (by omega)
    have d0n : decide (60 < l0.length) = true := decide_eq_true (by omega)
    clear h g0
    go_enter Try.func5, Try.ntmps5
    go_wp2_with (go_at_call 10; refine (kl _).mono ?_; rintro e w9 ⟨rfl, hb9⟩)
    go_ret
    exact ⟨rfl, hb9⟩
  rw [if_neg g0] at h
  have d0 : decide ((60 : Int) < (l0.length : Int)) = false := decide_eq_false (by omega)
  have d0n : decide (60 < l0.length) = false := decide_eq_false (by omega)
  by_cases g1 : (l2.length : Int) > 60
  · rw [if_pos g1] at h
    obtain rfl := Option.some.inj h
    have d1 : decide ((60 : Int) < (l2.length : Int)) = true := decide_eq_true (by omega)
    have d1n : decide (60 < l2.length) = true := decide_eq_true (by omega)
    clear h g0 g1
    go_enter Try.func5, Try.ntmps5
    go_wp2_with (go_at_call 10; refine (kl _).mono ?_; rintro e w9 ⟨rfl, hb9⟩)
    go_ret
    exact ⟨rfl, hb9⟩
  rw [if_neg g1] at h
  have d1 : decide ((60 : Int) < (l2.length : Int)) = false := decide_eq_false (by omega)
  have d1n : decide (60 < l2.length) = false := decide_eq_false (by omega)
  by_cases g2 : first < 0
  · rw [if_pos g2] at h
    obtain rfl := Option.some.inj h
    have d2 : decide (first < 0) = true := decide_eq_true (by omega)
    clear h g0 g1 g2
    go_enter Try.func5, Try.ntmps5
    go_wp2_with (go_at_call 10; refine (kl _).mono ?_; rintro e w9 ⟨rfl, hb9⟩)
    go_ret
    exact ⟨rfl, hb9⟩
  rw [if_neg g2] at h
  have d2 : decide (first < 0) = false := decide_eq_false (by omega)
  by_cases g3 : 65535 < first
  · rw [if_pos g3] at h
    obtain rfl := Option.some.inj h
    have d3 : decide (65535 < first) = true := decide_eq_true (by omega)
    clear h g0 g1 g2 g3
    go_enter Try.func5, Try.ntmps5
    go_wp2_with (go_at_call 10; refine (kl _).mono ?_; rintro e w9 ⟨rfl, hb9⟩)
    go_ret
    exact ⟨rfl, hb9⟩
  rw [if_neg g3] at h
  have d3 : decide (65535 < first) = false := decide_eq_false (by omega)
  have G0 := Aside0.mk g0
  have G1 := Aside0.mk g1
  clear g0 g1 g2 g3
  replace h := Option.bind_eq_some_iff.mp h
  obtain ⟨o, hPut, hEnd⟩ := h
  have HP0 := Aside0.mk (show flapBackPut k (l0.drop 0) first ⟨#[]⟩ [] = some o by rw [List.drop_zero]; exact hPut)
  have HE0 := Aside0.mk hEnd
  clear hPut hEnd
  go_enter Try.func5, Try.ntmps5
  go_upto_block 0 with (fail)
  go_cut [7, 8] (fun a u wc => ∃ (s : ByteArray) (want : List S37), a = .string s ∧ Aside0 (o = some (s, want)) ∧ Aside0 (Below w.heap.size w wc) ∧ Aside0 (k37.R 37 wc w.heap.size (fun _ => True) u want))
  case first =>
    go_wp2
    go_loopw [7, 8, 9, 10] (fun a u q i wr => ∃ (j : Nat) (s : ByteArray) (want : List S37) (seq : Int), j ≤ l0.length ∧ i = .int .i64 j ∧ a = .string s ∧ q = .int .i64 seq ∧ Aside0 (flapBackPut k (l0.drop j) seq s want = some o) ∧ Aside0 (Below w.heap.size w wr) ∧ Aside0 (k37.R 37 wr w.heap.size (fun _ => True) u want)) (fun _ _ _ i _ => l0.length - (intOf i).toNat)
    case atStart => exact ⟨0, ⟨#[]⟩, [], first, Nat.zero_le _, rfl, rfl, rfl, HP0, ⟨Below.refl _ _⟩, ⟨Kd.R_nil _ _ _ _ _⟩⟩
    case round =>
      clear HP0
      obtain ⟨j, s, want, seq, hj, rfl, rfl, rfl, HG, HB, HU⟩ := hrel
      by_cases hlt : j < l0.length
      · have p0 : decide ((j : Int) < (l0.length : Int)) = true := decide_eq_true (by omega)
        have p0n : decide (j < l0.length) = true := decide_eq_true hlt
        have hG := HG.out
        rw [List.drop_eq_getElem_cons hlt] at hG
        simp only [flapBackPut] at hG
        by_cases cs : (s.size : Int) ≤ 30000
        · rw [if_pos cs] at hG
          have p1 : decide ((s.size : Int) ≤ 30000) = true := decide_eq_true cs
          have p1n : decide (s.size ≤ 30000) = true := decide_eq_true (by omega)
          obtain ⟨ad, hA0, x0, x1, x2⟩ := at_T37 (Kd.C_below HR0.out HB.out) (j : Int) (by omega) (by omega)
          subst hA0
          have e1 : rd_T37 l0 (j : Int) = l0[j] := by simp [rd_T37, List.getD_eq_getElem?_getD, hlt]
          rw [e1, Int.toNat_natCast] at x0 x1 x2
          clear e1
          generalize l0[j] = f at *
          obtain ⟨f0, f1, f2⟩ := f
          dsimp only at x0 x1 x2 hG
          replace hG := Option.bind_eq_some_iff.mp hG
          obtain ⟨⟨p1, p2⟩, hp, hG⟩ := hG
          dsimp only at hG
          have kp := fun W => flap_Put.calls k f0 seq f2 p1 p2 W hp
          have HJ := Aside0.mk hlt
          clear hp HG
          go_upto_region 12 with (go_at_call 18; refine (kp _).mono ?_; rintro e w1 ⟨rfl, hb1⟩)
          have HX := Aside0.mk (blk_below (heap_alloc_new wr (.cells #[.int .i64 f0, .int .i64 seq, .string f2] 37)) hb1)
          have HB1 := Aside0.mk (below_step (HB.out.alloc HB.out.size _) hb1)
          have HU1 := Aside0.mk (Kd.R_below (Kd.R_alloc HU.out _) hb1)
          have y0 : w1.cell? ⟨wr.heap.size, 0, none⟩ = some (.int .i64 f0) := (blk_cell HX.out 0).trans rfl
          have y1 : w1.cell? ⟨wr.heap.size, 1, none⟩ = some (.int .i64 seq) := (blk_cell HX.out 1).trans rfl
          have y2 : w1.cell? ⟨wr.heap.size, 2, none⟩ = some (.string f2) := (blk_cell HX.out 2).trans rfl
          clear hb1 x0 x1 x2 kp
          by_cases c3 : p2 = 0
          · rw [if_pos c3] at hG
            subst c3
            by_cases c4 : s.size + p1.size ≤ 1000000 ∧ (want.length + 1) * 32 ≤ 140737488355328
            · rw [if_pos c4] at hG
              obtain ⟨c4, c5⟩ := c4
              have HGO := Aside0.mk hG
              have HLX := Aside0.mk c5
              have hsum : s.size + p1.size ≤ 9223372036854775807 := by omega
              have kx := fun W => flap_Next.calls seq _ W (flapNext_f seq)
              have hm0 : l0.length ≤ 60 := by have := G0.out; omega
              clear hG c4 c5 cs
              go_wp2_with (first | (go_at_call 15; refine (kn _ _).mono ?_; rintro e w8 ⟨rfl, ⟨nd, rfl⟩⟩) | (go_at_call 20; refine (kx _).mono ?_; rintro e w8 ⟨rfl, ⟨nd2, rfl⟩⟩) | ((with_reducible refine gate_builtin (b := .append) (xs := #[.tmp 62, .tmp 64]) rfl ?_); at_builtin; refine Kd.R_append k37 (w0 := w1.drewN nd) w.heap.size rfl (.tmp 62) (.tmp 64) 27 37 (.agg #[(.int .i64 0), (.int .i64 0), (.string ⟨#[]⟩)]) 32 rfl Try.underlying27 info37 rfl (by decide) (by decide) u8 want (⟨f0, seq, f2⟩ : S37) [.int .i64 f0, .int .i64 seq, .string f2] (fun _ => True) (fun _ => False) rfl rfl (k37_mkM _ _ _ (⟨f0, seq, f2⟩ : S37)) (fun _ hk => hk.elim) (fun _ _ => trivial) (Kd.R_drewN HU1.out nd) (Below.refl _ _) HB1.out.size HLX.out ?_; intro u9 w2 ho hb hg hat; have HU2 := Aside0.mk ho; have HB2 := Aside0.mk ((pw_below_drewN HB1.out nd).trans hb); clear ho hb hg hat))
              go_roundw
              case rel => exact ⟨j + 1, s ++ p1, want ++ [⟨f0, seq, f2⟩], flapNext seq, by have := HJ.out; omega, by go_num, rfl, rfl, HGO, ⟨pw_below_drewN HB2.out _⟩, ⟨Kd.R_drewN HU2.out _⟩⟩
              case measure => have := HJ.out; simp [intOf]; omega
            · rw [if_neg c4] at hG
              cases hG
          · rw [if_neg c3] at hG
            have ds : (p2 != 0) = true := bne_iff_ne.mpr c3
            obtain rfl := Option.some.inj hG
            have hE := HE0.out
            obtain rfl := Option.some.inj hE
            clear hG hE c3
            go_wp2_with (first | (go_at_call 15; refine (kn _ _).mono ?_; rintro e w8 ⟨rfl, ⟨nd, rfl⟩⟩) | (go_at_call 10; refine (kl _).mono ?_; rintro e w9 ⟨rfl, hb9⟩))
            go_ret
            exact ⟨rfl, below_step (pw_below_drewN HB1.out _) hb9⟩
        · rw [if_neg cs] at hG
          have p1 : decide ((s.size : Int) ≤ 30000) = false := decide_eq_false cs
          have p1n : decide (s.size ≤ 30000) = false := decide_eq_false (by omega)
          obtain rfl := Option.some.inj hG
          clear hG HG cs
          go_wp2
          go_meet
          case rel => exact ⟨s, want, rfl, ⟨rfl⟩, HB, HU⟩
      · have p0 : decide ((j : Int) < (l0.length : Int)) = false := decide_eq_false (by omega)
        have p0n : decide (j < l0.length) = false := decide_eq_false hlt
        have hG := HG.out
        rw [List.drop_of_length_le (by omega)] at hG
        obtain rfl := Option.some.inj hG
        clear hG HG
        go_wp2
        go_meet
        case rel => exact ⟨s, want, rfl, ⟨rfl⟩, HB, HU⟩
  case rest =>
    obtain ⟨s, want, rfl, HO, HB, HU⟩ := hcut
    have hE := HE0.out
    rw [HO.out] at hE
    dsimp only at hE
    clear HE0 HO HP0
    by_cases cz : s.size ≤ 1000000
    · rw [if_pos cz] at hE
      have HZ := Aside0.mk cz
      obtain ⟨P, hP⟩ : ∃ P, flapBackFeed l2 flapNew s [] = P := ⟨_, rfl⟩
      rw [hP] at hE
      have HE := Aside0.mk hE
      have HP := Aside0.mk hP
      clear hE hP cz
      go_upto_block 2 with (go_at_call 11; refine (flapNew_calls w.heap.size _ HB.out.size).mono ?_; rintro e w4 ⟨rfl, hA, hb4⟩; have HA4 := Aside0.mk hA; have HB4 := Aside0.mk (below_step HB.out hb4); have HW4 := Aside0.mk (Kd.R_below HU.out hb4); clear hA hb4)
      generalize wc.heap.size = g at *
      clear HU HB
      go_wp2
      go_loopw [7, 15, 16] (fun a u i wr => ∃ (j : Nat) (st : FlapSt) (v : Value) (got : List S37) (s : ByteArray), j ≤ l2.length ∧ i = .int .i64 j ∧ a = .string s ∧ Aside0 (flapBackFeed (l2.drop j) st s got = P) ∧ Aside0 (FlapAt w.heap.size wr g st v) ∧ Aside0 (FlapOk st) ∧ Aside0 (Below w.heap.size w wr) ∧ Aside0 (k37.R 37 wr w4.heap.size (fun _ => True) u got) ∧ Aside0 (k37.R 37 wr w.heap.size (fun k_ => k_ < w4.heap.size) u8 want) ∧ Aside0 (got.length + s.size ≤ 1000000) ∧ Aside0 (w4.heap.size ≤ wr.heap.size)) (fun _ _ i _ => l2.length - (intOf i).toNat)
      case atStart => exact ⟨0, _, _, [], s, Nat.zero_le _, rfl, rfl, ⟨by rw [List.drop_zero]; exact HP.out⟩, HA4, ⟨flapNew_ok⟩, HB4, ⟨Kd.R_nil _ _ _ _ _⟩, ⟨Kd.R_mono (Kd.R_bound HW4.out) (fun _ hk => hk.2.2.1)⟩, ⟨by have := HZ.out; simp; omega⟩, ⟨Nat.le_refl _⟩⟩
      case round =>
        clear HP HA4 HW4 HZ
        obtain ⟨j, st, v, got, s, hj, rfl, rfl, HG, HA, HO, HB, HU, HW, HN, HS⟩ := hrel
        by_cases hlt : j < l2.length
        · have p0 : decide ((j : Int) < (l2.length : Int)) = true := decide_eq_true (by omega)
          have p0n : decide (j < l2.length) = true := decide_eq_true hlt
          have hG := HG.out
          rw [List.drop_eq_getElem_cons hlt] at hG
          obtain ⟨ad, rfl, hx⟩ := ReadsOf.at_ (Kd.reads_of_C (enc := Value.int .i64) (d := (0 : Int)) (h1 := fun _ => rfl) (Kd.C_below HR2.out HB.out)) (j : Int) (by omega) (by omega)
          have hb : rdOf (0 : Int) l2 (j : Int) = l2[j] := by simp [rdOf, List.getD_eq_getElem?_getD, hlt]
          rw [hb, Int.toNat_natCast] at hx
          generalize l2[j] = c at *
          clear hb
          simp only [flapBackFeed] at hG
          have hc1 : mx 0 (mn c (s.size : Int)) = ((flapCutAt c s : Nat) : Int) := by
            unfold flapCutAt mx mn
            split <;> split <;> omega
          have hc2 : flapCutAt c s ≤ s.size := by
            unfold flapCutAt mx mn
            split <;> split <;> omega
          generalize flapCutAt c s = n at *
          have HJ := Aside0.mk hlt
          have HC := Aside0.mk hc1
          have HGO := Aside0.mk hG
          clear hG HG hc1
          go_upto_region 24 with (fail)
          go_cut [17] (fun u wd => u = .int .i64 (n : Int) ∧ Aside0 (wr = wd))
          case first =>
            have hC := HC.out
            unfold mx mn at hC
            by_cases q1 : c ≤ (s.size : Int)
            · by_cases q2 : 0 < c
              · have t1 : ((s.size : Int) < c) = False := eq_false (by omega)
                have t2 : (0 < c) = True := eq_true q2
                have hv : c = (n : Int) := by simp only [t1, t2, if_true, if_false] at hC; omega
                have HV := Aside0.mk hv
                clear hC q1 q2 hv
                go_wp2
                go_meet
                case rel => exact ⟨by first | rfl | rw [HV.out], ⟨rfl⟩⟩
              · have t1 : ((s.size : Int) < c) = False := eq_false (by omega)
                have t2 : (0 < c) = False := eq_false q2
                have hv : 0 = (n : Int) := by simp only [t1, t2, if_true, if_false] at hC; omega
                have HV := Aside0.mk hv
                clear hC q1 q2 hv
                go_wp2
                go_meet
                case rel => exact ⟨by rw [← HV.out], ⟨rfl⟩⟩
            · have t1 : ((s.size : Int) < c) = True := eq_true (by omega)
              by_cases q2 : 0 < s.size
              · have t2 : ((0 : Int) < (s.size : Int)) = True := eq_true (by omega)
                have t3 : (0 < s.size) = True := eq_true (by omega)
                have hv : (s.size : Int) = (n : Int) := by simp only [t1, t2, if_true, if_false] at hC; omega
                have HV := Aside0.mk hv
                clear hC q1 q2 hv
                go_wp2
                go_meet
                case rel => exact ⟨by rw [← HV.out], ⟨rfl⟩⟩
              · have t2 : ((0 : Int) < (s.size : Int)) = False := eq_false (by omega)
                have t3 : (0 < s.size) = False := eq_false (by omega)
                have hv : 0 = (n : Int) := by simp only [t1, t2, if_true, if_false] at hC; omega
                have HV := Aside0.mk hv
                clear hC q1 q2 hv
                go_wp2
                go_meet
                case rel => exact ⟨by rw [← HV.out], ⟨rfl⟩⟩
          case rest =>
            obtain ⟨rfl, HWD⟩ := hcut
            obtain rfl := HWD.out
            clear HWD HC
            have hs1 : ∀ wx : World, (Instr.slice 9 (.string s) none (some (.int .i64 (n : Int))) none).run Try.prog wx = .ok (.string (s.extract 0 n)) wx := fun wx => by
              have := run_slice_string_h (P := Try.prog) (w := wx) (t := 9) (s := s) Try.underlying9 .i64 (n : Int) (by omega) (by omega)
              rw [Int.toNat_natCast] at this
              exact this
            have hs2 : ∀ wx : World, (Instr.slice 9 (.string s) (some (.int .i64 (n : Int))) none none).run Try.prog wx = .ok (.string (s.extract n s.size)) wx := fun wx => by
              have := run_slice_string_l (P := Try.prog) (w := wx) (t := 9) (s := s) Try.underlying9 .i64 (n : Int) (by omega) (by omega)
              rw [Int.toNat_natCast] at this
              exact this
            have kF := flapFeed_calls w.heap.size g st v (s.extract 0 n) wr HA.out HO.out (by have := HN.out; rw [ByteArray.size_extract]; omega) HB.out.size
            have HO5 := Aside0.mk (flapRun_ok (Bytes.L (s.extract 0 n)) st [] HO.out)
            have hfl := flapRun_len (Bytes.L (s.extract 0 n)) st []
            have hz0 : (Bytes.L (s.extract 0 n)).length = n := by
              show (s.extract 0 n).size = n
              rw [ByteArray.size_extract]
              omega
            rw [hz0] at hfl
            simp only [List.length_nil, Nat.zero_add] at hfl
            generalize flapRun (Bytes.L (s.extract 0 n)) st [] = F at *
            have HLX : Aside0 ((got.length + F.2.length) * 32 ≤ 140737488355328) := ⟨by have := HN.out; omega⟩
            have HN5 : Aside0 ((got ++ F.2).length + (s.extract n s.size).size ≤ 1000000) := ⟨by have := HN.out; rw [List.length_append, ByteArray.size_extract]; omega⟩
            have p5 : ((n : Int) ≤ (s.size : Int)) = True := eq_true (by omega)
            clear hfl hz0 HO
            have hm0 : l2.length ≤ 60 := by have := G1.out; omega
            go_wp2_with (first | (go_at_call 12; refine kF.mono ?_; rintro e w5 ⟨u5, v5, rfl, hU5, hA5, hK5⟩; obtain ⟨A5, c5, rfl, hle5, hC5⟩ := Kd.R_reads hU5; have HA5 := Aside0.mk hA5; have HU5 := Aside0.mk (hK5.row HU.out (by decide)); have HW5 := Aside0.mk (hK5.row HW.out (by decide)); have HB5 := Aside0.mk (hK5.below HB.out HB.out.size); have HC5 := Aside0.mk hC5; have HS5 := Aside0.mk (Nat.le_trans HS.out hK5.size); clear hU5 hA5 hK5 hle5 hC5) | ((with_reducible refine gate_builtin (b := .append) (xs := #[.tmp 88, .tmp 93]) rfl ?_); at_builtin; refine Kd.R_append_rows k37 (Rr := k37.K w5) (w0 := w5) w4.heap.size rfl (.tmp 88) (.tmp 93) 27 37 (.agg #[(.int .i64 0), (.int .i64 0), (.string ⟨#[]⟩)]) 32 rfl Try.underlying27 info37 rfl (by decide) (by decide) u15 got F.2 A5 F.2.length c5 (fun _ => True) (fun _ => False) rfl rfl HU5.out HC5.out flapKM (fun _ hk => hk.elim) (fun _ _ => trivial) (Below.refl _ _) HS5.out HLX.out ?_; intro v6 w6 ho hb hg hat; have HU6 := Aside0.mk ho; have HB6 := Aside0.mk (HB5.out.trans (hb.mono (Nat.le_trans HB4.out.size (Nat.le_refl _)))); have HS6 := Aside0.mk (Nat.le_trans HS5.out hg.size); have HG6 := Aside0.mk hg; have HW6 := Aside0.mk (Kd.R_grown HW5.out hg (fun k_ hk_ e_ => Nat.lt_irrefl _ (Nat.lt_of_lt_of_le hk_ (Kd.R_base HU5.out k_ e_.symm)))); have HA6 := Aside0.mk (HA5.out.grown hg (fun i hi => by obtain ⟨cells, hc⟩ := Kd.R_typed HU5.out i hi; exact ⟨cells, _, hc, by decide, by decide⟩)); clear ho hb hg hat))
            go_roundw
            case rel => exact ⟨j + 1, F.1, v5, got ++ F.2, s.extract n s.size, by have := HJ.out; omega, by go_num, rfl, HGO, HA6, HO5, HB6, HU6, HW6, HN5, HS6⟩
            case measure => have := HJ.out; simp [intOf]; omega
        · have p0 : decide ((j : Int) < (l2.length : Int)) = false := decide_eq_false (by omega)
          have p0n : decide (j < l2.length) = false := decide_eq_false hlt
          have hG := HG.out
          rw [List.drop_of_length_le (by omega)] at hG
          simp only [flapBackFeed] at hG
          subst hG
          have hE := HE.out
          unfold flapBackEnd at hE
          dsimp only at hE
          clear HE HG
          have kF := flapFeed_calls w.heap.size g st v s wr HA.out HO.out (by have := HN.out; omega) HB.out.size
          have hfl := flapRun_len (Bytes.L s) st []
          have hz0 : (Bytes.L s).length = s.size := rfl
          rw [hz0] at hfl
          simp only [List.length_nil, Nat.zero_add] at hfl
          generalize flapRun (Bytes.L s) st [] = F at *
          have HLX : Aside0 ((got.length + F.2.length) * 32 ≤ 140737488355328) := ⟨by have := HN.out; omega⟩
          clear hfl hz0 HO
          replace hE := Option.bind_eq_some_iff.mp hE
          obtain ⟨b, hSame, hE⟩ := hE
          by_cases c5 : b = true ∧ F.1.err = 0 ∧ flapLeft F.1 = 0
          · rw [if_pos c5] at hE
            obtain ⟨rfl, e1, e2⟩ := c5
            obtain rfl := Option.some.inj hE
            have HSM := Aside0.mk hSame
            have HE1 := Aside0.mk e1
            have HE2 := Aside0.mk e2
            clear hE hSame e1 e2
            go_upto_region 28 with (first | (go_at_call 12; refine kF.mono ?_; rintro e w5 ⟨u5, v5, rfl, hU5, hA5, hK5⟩; obtain ⟨A5, c6, rfl, hle5, hC5⟩ := Kd.R_reads hU5; have HA5 := Aside0.mk hA5; have HU5 := Aside0.mk (hK5.row HU.out (by decide)); have HW5 := Aside0.mk (hK5.row HW.out (by decide)); have HB5 := Aside0.mk (hK5.below HB.out HB.out.size); have HC5 := Aside0.mk hC5; have HS5 := Aside0.mk (Nat.le_trans HS.out hK5.size); clear hU5 hA5 hK5 hle5 hC5) | ((with_reducible refine gate_builtin (b := .append) (xs := #[.tmp 98, .tmp 101]) rfl ?_); at_builtin; refine Kd.R_append_rows k37 (Rr := k37.K w5) (w0 := w5) w4.heap.size rfl (.tmp 98) (.tmp 101) 27 37 (.agg #[(.int .i64 0), (.int .i64 0), (.string ⟨#[]⟩)]) 32 rfl Try.underlying27 info37 rfl (by decide) (by decide) u15 got F.2 A5 F.2.length c6 (fun _ => True) (fun _ => False) rfl rfl HU5.out HC5.out flapKM (fun _ hk => hk.elim) (fun _ _ => trivial) (Below.refl _ _) HS5.out HLX.out ?_; intro v6 w6 ho hb hg hat; have HU6 := Aside0.mk ho; have HB6 := Aside0.mk (HB5.out.trans (hb.mono (Nat.le_trans HB4.out.size (Nat.le_refl _)))); have HS6 := Aside0.mk (Nat.le_trans HS5.out hg.size); have HG6 := Aside0.mk hg; have HW6 := Aside0.mk (Kd.R_grown HW5.out hg (fun k_ hk_ e_ => Nat.lt_irrefl _ (Nat.lt_of_lt_of_le hk_ (Kd.R_base HU5.out k_ e_.symm)))); have HA6 := Aside0.mk (HA5.out.grown hg (fun i hi => by obtain ⟨cells, hc⟩ := Kd.R_typed HU5.out i hi; exact ⟨cells, _, hc, by decide, by decide⟩)); clear ho hb hg hat))
            generalize got ++ F.2 = got2 at *
            obtain ⟨A6, c7, rfl, hle6, hC6⟩ := Kd.R_reads HU6.out
            obtain ⟨A7, c8, rfl, hle7, hC7⟩ := Kd.R_reads HW6.out
            have kS := wharfref12_Same.calls k A6 c7 got2 A7 c8 want true w6 hC6 hle6 hC7 hle7 HSM.out
            have kE := fun m => flapErr_calls w.heap.size g F.1 v5 (w6.drewN m) (HA6.out.drewN m)
            have kL := fun m => flapLeft_calls w.heap.size g F.1 v5 (w6.drewN m) (HA6.out.drewN m)
            rw [HE1.out] at kE
            rw [HE2.out] at kL
            clear hC6 hle6 hC7 hle7 kF
            go_wp2_with (first | (go_at_call 14; refine kS.mono ?_; rintro e w8 ⟨rfl, ⟨nd, rfl⟩⟩) | (go_at_call 15; refine (kn _ _).mono ?_; rintro e w8 ⟨rfl, ⟨nd, rfl⟩⟩) | (go_at_call 10; refine (kl _).mono ?_; rintro e w9 ⟨rfl, hb9⟩) | (go_at_call 16; refine (kE _).mono ?_; rintro e w8 ⟨rfl, rfl⟩) | (go_at_call 17; refine (kL _).mono ?_; rintro e w8 ⟨rfl, rfl⟩))
            go_ret
            exact ⟨rfl, below_step (by repeat (first | exact HB6.out | refine pw_below_drewN ?_ _)) hb9⟩
          · rw [if_neg c5] at hE
            cases hE
    · rw [if_neg cz] at hE
      cases hE
theorem wharflaw12_FlapBack.callsT (k : Nat) (A0 : Option Addr) (c0 : Nat) (l0 : List S37) (first : Int) (A2 : Option Addr) (c2 : Nat) (l2 : List Int) (r : Bool) (w : World) (hr0 : Kd.C k37 w A0 l0.length l0) (hc0 : l0.length ≤ c0) (hr2 : Kd.C (Kd.int .i64) w A2 l2.length l2) (hc2 : l2.length ≤ c2) (_ : Aside0 (r = true)) (h : wharflaw12_FlapBack.f k l0 first l2 = some r) :
    Calls Try.prog 5 #[.slice A0 l0.length c0, .int .i64 first, .slice A2 l2.length c2] w fun e w' => e = .returned (.bool r) ∧ Below w.heap.size w w' := wharflaw12_FlapBack.calls k A0 c0 l0 first A2 c2 l2 r w hr0 hc0 hr2 hc2 h

end Go.Proofs.Ythncdeeakhilfaa.H
