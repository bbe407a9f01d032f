-- written by hp.py for this claim, out of the kit's printer and texts of my own
import Derived.Test.YthncdeeakhilfaaHx0
import Derived.Test.YthncdeeakhilfaaHx9
import Derived.Test.YthncdeeakhilfaaHx10
import Derived.Test.YthncdeeakhilfaaHx15
import Derived.Test.YthncdeeakhilfaaHx18
import Derived.Test.YthncdeeakhilfaaHx20
import Derived.Test.YthncdeeakhilfaaHx20001
import Derived.Test.YthncdeeakhilfaaHx20002
import Derived.Test.YthncdeeakhilfaaHx20003
import Derived.Test.YthncdeeakhilfaaHx20003
import Derived.Test.YthncdeeakhilfaaHx18
import Derived.Test.YthncdeeakhilfaaHx15
import Derived.Test.YthncdeeakhilfaaHx10
import Derived.Test.YthncdeeakhilfaaHx9
import Derived.Test.YthncdeeakhilfaaHx20
import Derived.Deep.QuietTactic
import Derived.BigQuiet
import Derived.WalkKit
namespace Go.Proofs.Ythncdeeakhilfaa.H
open Go.RowKit Go.Proofs.YthncdeeakhilfaaW.PrintWords Go.Proofs.YthncdeeakhilfaaW.PrintLast Go.Proofs.YthncdeeakhilfaaW.PrintMore
attribute [local go_sem] max2_int min2_int max_two min_two max_three min_three max_four min_four   -- for this text's walks alone
set_option linter.unusedVariables false
set_option linter.unusedSimpArgs false

def flapRightIn (k : Nat) : List S37 → Int → ByteArray → Option (Int × ByteArray)
  | [], last, front => some (last, front)
  | f :: t, last, front => (flap_Put.f k f.f0 f.f1 f.f2).bind fun p =>
      if p.2 = 0 ∧ (0 ≤ last → f.f1 = flapNext last) ∧ front.size + p.1.size ≤ 1000000 then flapRightIn k t f.f1 (front ++ p.1) else none
def flapRightGo (k : Nat) : List ByteArray → FlapSt → ByteArray → ByteArray → Int → Option Bool
  | [], _, _, _, _ => some true
  | b :: t, st, all, front, last =>
    if b.size ≤ 1000000 ∧ all.size ≤ 1000000 then
      (flapRightIn k (flapRun (Bytes.L b) st []).2 last front).bind fun q =>
        if q.2.size ≤ (all ++ b).size ∧ ((all ++ b).extract 0 q.2.size).toList = q.2.toList ∧ ((flapRun (Bytes.L b) st []).1.err = 0 → flapLeft (flapRun (Bytes.L b) st []).1 = ((all ++ b).size : Int) - (q.2.size : Int)) then
          flapRightGo k t (flapRun (Bytes.L b) st []).1 (all ++ b) q.2 q.1
        else none
    else none
/-- what the law answers where it is true (else none) -/
def wharflaw12_FlapRight.f (k : Nat) (l : List ByteArray) : Option Bool :=
  (wharflaw12_small.f k l).bind fun s => if s = true then flapRightGo k l flapNew ⟨#[]⟩ ⟨#[]⟩ (-1) else some true
set_option maxRecDepth 100000 in
set_option maxHeartbeats 8000000 in
theorem wharflaw12_FlapRight.calls (k : Nat) (A0 : Option Addr) (c0 : Nat) (l0 : List ByteArray) (r : Bool) (w : World) (hr0 : Kd.C Kd.string w A0 l0.length l0) (hc0 : l0.length ≤ c0) (h : wharflaw12_FlapRight.f k l0 = some r) :
    Calls Try.prog 8 #[.slice A0 l0.length c0] w fun e w' => e = .returned (.bool r) ∧ Below w.heap.size w w' := by
  obtain ⟨s, hs, h⟩ := Option.bind_eq_some_iff.mp h
  have ks := wharflaw12_small.calls k A0 c0 l0 s w hr0 hc0 hs
  have kl := fun W => wharflaw12_live.calls true W rfl
  have kn := fun a W => wharflaw12_num.calls a a W rfl
  have HR0 := Aside0.mk hr0
  have HM0 := Aside0.mk (Kd.C_max hr0)
  clear hr0 hc0 hs
  by_cases c1 : s = true
  · subst c1
    rw [if_pos rfl] at h
    have H0 := Aside0.mk h
    clear h
    go_enter Try.func8, Try.ntmps8
    go_wp2_with (first | (go_at_call 9; refine ks.mono ?_; rintro e w1 ⟨rfl, ⟨nd, rfl⟩⟩; have HB1 := Aside0.mk (pw_below_drewN (Below.refl w.heap.size w) nd)) | (go_at_call 11; refine (flapNew_calls w.heap.size _ HB1.out.size).mono ?_; rintro e w4 ⟨rfl, hA, hb4⟩; have HA := Aside0.mk hA; have HB4 := Aside0.mk (below_step HB1.out hb4); clear hA hb4))
    have HA : Aside0 (FlapAt w.heap.size w4 w.heap.size flapNew (.slice none 0 0)) := HA
    go_loopw [4, 5, 6, 7] (fun a f q i wr => ∃ (j : Nat) (st : FlapSt) (v : Value) (all front : ByteArray) (last : Int), j ≤ l0.length ∧ i = .int .i64 j ∧ a = .string all ∧ f = .string front ∧ q = .int .i64 last ∧ Aside0 (flapRightGo k (l0.drop j) st all front last = some r) ∧ Aside0 (FlapAt w.heap.size wr w.heap.size st v) ∧ Aside0 (FlapOk st) ∧ Aside0 (Below w.heap.size w wr)) (fun _ _ _ i _ => l0.length - (intOf i).toNat)
    case atStart => exact ⟨0, _, _, ⟨#[]⟩, ⟨#[]⟩, -1, Nat.zero_le _, rfl, rfl, rfl, rfl, ⟨by rw [List.drop_zero]; exact H0.out⟩, HA, ⟨flapNew_ok⟩, HB4⟩
    case round =>
      clear H0 HA HB4 HB1
      obtain ⟨j, st, v, all, front, last, hj, rfl, rfl, rfl, rfl, HG, HA, HO, HB⟩ := hrel
      by_cases hlt : j < l0.length
      · have p0 : decide ((j : Int) < (l0.length : Int)) = true := decide_eq_true (by omega)
        have p0n : decide (j < l0.length) = true := decide_eq_true hlt
        have hG := HG.out
        rw [List.drop_eq_getElem_cons hlt] at hG
        obtain ⟨ad, rfl, hx⟩ := ReadsOf.at_ (Kd.reads_of_C (enc := Value.string) (d := (⟨#[]⟩ : ByteArray)) (h1 := fun _ => rfl) (Kd.C_below HR0.out HB.out)) (j : Int) (by omega) (by omega)
        have hb : rdOf (⟨#[]⟩ : ByteArray) l0 (j : Int) = l0[j] := by simp [rdOf, List.getD_eq_getElem?_getD, hlt]
        rw [hb, Int.toNat_natCast] at hx
        have HX : Aside0 (∀ W, Below w.heap.size w W → W.cell? (ad.add j) = some (.string l0[j])) := ⟨fun W hW => by
          obtain ⟨ad', e', hx'⟩ := ReadsOf.at_ (Kd.reads_of_C (enc := Value.string) (d := (⟨#[]⟩ : ByteArray)) (h1 := fun _ => rfl) (Kd.C_below HR0.out hW)) (j : Int) (by omega) (by omega)
          obtain rfl := Option.some.inj e'
          rw [hb, Int.toNat_natCast] at hx'
          exact hx'⟩
        generalize l0[j] = b at *
        clear hb
        simp only [flapRightGo] at hG
        by_cases c2 : b.size ≤ 1000000 ∧ all.size ≤ 1000000
        · rw [if_pos c2] at hG
          obtain ⟨c2, c4⟩ := c2
          replace hG := Option.bind_eq_some_iff.mp hG
          obtain ⟨⟨last2, front2⟩, hIn, hG⟩ := hG
          dsimp only at hG
          have kF := flapFeed_calls w.heap.size w.heap.size st v b wr HA.out HO.out c2 HB.out.size
          have HO5 := Aside0.mk (flapRun_ok (Bytes.L b) st [] HO.out)
          have HG2 := Aside0.mk hG
          have HIN0 := Aside0.mk hIn
          have HJ := Aside0.mk hlt
          have HC2 := Aside0.mk c2
          have HC4 := Aside0.mk c4
          have hfl := flapRun_len (Bytes.L b) st []
          have hz0 : (Bytes.L b).length = b.size := rfl
          rw [hz0] at hfl
          simp only [List.length_nil, Nat.zero_add] at hfl
          generalize flapRun (Bytes.L b) st [] = F at *
          have HFL : Aside0 (F.2.length ≤ 1000000) := ⟨by omega⟩
          clear hG HG hIn c2 c4 hfl hz0
          go_upto_region 12 with (go_at_call 12; refine kF.mono ?_; rintro e w5 ⟨u5, v5, rfl, hU5, hA5, hK5⟩; obtain ⟨A5, c5, rfl, hle5, hC5⟩ := Kd.R_reads hU5; have HA5 := Aside0.mk hA5; have HB5 := Aside0.mk (hK5.below HB.out HB.out.size); have HC5 := Aside0.mk hC5; clear hU5 hA5 hK5 hle5 hC5)
          have hx5 := HX.out w5 HB5.out
          have hsum : all.size + b.size ≤ 9223372036854775807 := by have := HC2.out; have := HC4.out; omega
          clear hx HO
          go_upto_block 2 with (fail)
          go_cut [5, 6] (fun f q wc => f = .string front2 ∧ q = .int .i64 last2 ∧ Aside0 (Below w5.heap.size w5 wc))
          case first =>
            go_wp2
            go_loopw [5, 6, 9] (fun f q i wq => ∃ (m : Nat) (front : ByteArray) (last : Int), m ≤ F.2.length ∧ i = .int .i64 m ∧ f = .string front ∧ q = .int .i64 last ∧ Aside0 (flapRightIn k (F.2.drop m) last front = some (last2, front2)) ∧ Aside0 (Below w5.heap.size w5 wq)) (fun _ _ i _ => F.2.length - (intOf i).toNat)
            case atStart => exact ⟨0, front, last, Nat.zero_le _, rfl, rfl, rfl, ⟨by rw [List.drop_zero]; exact HIN0.out⟩, ⟨Below.refl _ _⟩⟩
            case round =>
              clear HIN0 hsum hx5
              obtain ⟨m, front, last, hm, rfl, rfl, rfl, HI, HQ⟩ := hrel
              by_cases hmt : m < F.2.length
              · have q0 : decide ((m : Int) < (F.2.length : Int)) = true := decide_eq_true (by omega)
                have q0n : decide (m < F.2.length) = true := decide_eq_true hmt
                have hI := HI.out
                rw [List.drop_eq_getElem_cons hmt] at hI
                have e1 : rd_T37 F.2 (m : Int) = F.2[m] := by simp [rd_T37, List.getD_eq_getElem?_getD, hmt]
                obtain ⟨ad5, hA0, x0, x1, x2⟩ := at_T37 (Kd.C_below HC5.out HQ.out) (m : Int) (by omega) (by omega)
                subst hA0
                rw [e1, Int.toNat_natCast] at x0 x1 x2
                have HXC : Aside0 (∀ W, Below w5.heap.size w5 W → W.cell? ⟨(ad5.add (m * 3)).block, (ad5.add (m * 3)).off + 1, none⟩ = some (.int .i64 F.2[m].f1)) := ⟨fun W hW => by
                  obtain ⟨ad', e', _, y1, _⟩ := at_T37 (Kd.C_below HC5.out hW) (m : Int) (by omega) (by omega)
                  obtain rfl := Option.some.inj e'
                  rw [e1, Int.toNat_natCast] at y1
                  exact y1⟩
                clear e1
                generalize F.2[m] = f at *
                obtain ⟨f0, f1, f2⟩ := f
                dsimp only at x0 x1 x2 HXC
                simp only [flapRightIn] at hI
                replace hI := Option.bind_eq_some_iff.mp hI
                obtain ⟨⟨a1, a2⟩, hp, hI⟩ := hI
                dsimp only at hI
                by_cases c6 : a2 = 0 ∧ (0 ≤ last → f1 = flapNext last) ∧ front.size + a1.size ≤ 1000000
                · rw [if_pos c6] at hI
                  obtain ⟨rfl, c7, c8⟩ := c6
                  have kp := fun W => flap_Put.calls k f0 f1 f2 a1 0 W hp
                  have HI2 := Aside0.mk hI
                  have HMT := Aside0.mk hmt
                  have hsum : front.size + a1.size ≤ 9223372036854775807 := by omega
                  have hfl : F.2.length ≤ 1000000 := HFL.out
                  clear hI hp HI c8
                  go_upto_region 17 with (go_at_call 18; refine (kp _).mono ?_; rintro e w6 ⟨rfl, hb6⟩; have HQ6 := Aside0.mk (below_step HQ.out hb6); clear hb6)
                  have y1 := HXC.out w6 HQ6.out
                  clear x0 x1 x2 kp
                  by_cases c9 : 0 ≤ last
                  · have d9 : decide (0 ≤ last) = true := decide_eq_true c9
                    have kx := fun W => flap_Next.calls last _ W (flapNext_f last)
                    have hnx := c7 c9
                    generalize flapNext last = nx at *
                    subst hnx
                    have dn : (f1 != f1) = false := bne_self_eq_false _
                    clear c7
                    repeat (go_quiet (first | (go_at_call 15; refine (kn _ _).mono ?_; rintro e w' ⟨rfl, ⟨nd, rfl⟩⟩; (try first | exact ⟨rfl, _, World.drewN_drewN _ _ _⟩ | exact ⟨rfl, _, Eq.trans (World.drewN_drewN _ _ _) (congrArg (World.drewN _) (Nat.add_assoc _ _ _))⟩)) | (go_at_call 20; refine (kx _).mono ?_; rintro e w' ⟨rfl, ⟨nd, rfl⟩⟩; (try first | exact ⟨rfl, _, World.drewN_drewN _ _ _⟩ | exact ⟨rfl, _, Eq.trans (World.drewN_drewN _ _ _) (congrArg (World.drewN _) (Nat.add_assoc _ _ _))⟩))))
                    go_wp2
                    go_roundw
                    case rel => exact ⟨m + 1, front ++ a1, f1, by have := HMT.out; omega, by go_num, rfl, rfl, HI2, ⟨pw_below_drewN HQ6.out _⟩⟩
                    case measure => have := HMT.out; simp [intOf]; omega
                  · have d9 : decide (0 ≤ last) = false := decide_eq_false c9
                    clear c7
                    repeat (go_quiet (first | (go_at_call 15; refine (kn _ _).mono ?_; rintro e w' ⟨rfl, ⟨nd, rfl⟩⟩; (try first | exact ⟨rfl, _, World.drewN_drewN _ _ _⟩ | exact ⟨rfl, _, Eq.trans (World.drewN_drewN _ _ _) (congrArg (World.drewN _) (Nat.add_assoc _ _ _))⟩)) | fail))
                    go_wp2
                    go_roundw
                    case rel => exact ⟨m + 1, front ++ a1, f1, by have := HMT.out; omega, by go_num, rfl, rfl, HI2, ⟨pw_below_drewN HQ6.out _⟩⟩
                    case measure => have := HMT.out; simp [intOf]; omega
                · rw [if_neg c6] at hI
                  cases hI
              · have q0 : decide ((m : Int) < (F.2.length : Int)) = false := decide_eq_false (by omega)
                have q0n : decide (m < F.2.length) = false := decide_eq_false hmt
                have hI := HI.out
                rw [List.drop_of_length_le (by omega)] at hI
                simp only [flapRightIn] at hI
                obtain ⟨rfl, rfl⟩ := Prod.mk.inj (Option.some.inj hI)
                clear hI HI
                go_wp2
                go_meet
                case rel => exact ⟨rfl, rfl, HQ⟩
          case rest =>
            obtain ⟨rfl, rfl, HQ⟩ := hcut
            have hG := HG2.out
            have HZS : Aside0 ((all ++ b).size ≤ 2000000) := ⟨by have := HC2.out; have := HC4.out; rw [ByteArray.size_append]; omega⟩
            generalize all ++ b = ab at *
            by_cases c10 : front2.size ≤ ab.size ∧ (ab.extract 0 front2.size).toList = front2.toList ∧ (F.1.err = 0 → flapLeft F.1 = (ab.size : Int) - (front2.size : Int))
            · rw [if_pos c10] at hG
              obtain ⟨c11, c12, c13⟩ := c10
              have HGO := Aside0.mk hG
              have HB6 := Aside0.mk (below_step HB5.out HQ.out)
              have HA6 := Aside0.mk (HA5.out.below HQ.out)
              have hz := HZS.out
              have t1 : decide ((ab.size : Int) < (front2.size : Int)) = false := decide_eq_false (by omega)
              have t1n : decide (ab.size < front2.size) = false := decide_eq_false (by omega)
              have hs1 : ∀ wx : World, (Instr.slice 9 (.string ab) none (some (.int .i64 (front2.size : Int))) none).run Try.prog wx = .ok (.string (ab.extract 0 front2.size)) wx := fun wx => by
                have := run_slice_string_h (P := Try.prog) (w := wx) (t := 9) (s := ab) Try.underlying9 .i64 (front2.size : Int) (by omega) (by omega)
                rw [Int.toNat_natCast] at this
                exact this
              have t2 : ((ab.extract 0 front2.size).toList != front2.toList) = false := bne_eq_false_iff_eq.mpr c12
              have t2a : ((ab.extract 0 front2.size).toList == front2.toList) = true := beq_iff_eq.mpr c12
              have t2b : ((ab.extract 0 front2.size).toList = front2.toList) = True := eq_true c12
              generalize ab.extract 0 front2.size = cut at *
              have kE := fun m => flapErr_calls w.heap.size w.heap.size F.1 v5 (wc.drewN m) (HA6.out.drewN m)
              have kE0 := flapErr_calls w.heap.size w.heap.size F.1 v5 wc HA6.out
              have kL := fun m => flapLeft_calls w.heap.size w.heap.size F.1 v5 (wc.drewN m) (HA6.out.drewN m)
              have hm0 := HM0.out
              clear hG HG2 c12 hx5 hsum HIN0
              by_cases c14 : F.1.err = 0
              · rw [c14] at kE kE0
                rw [c13 c14] at kL
                have t3 : ((ab.size : Int) - (front2.size : Int) != (ab.size : Int) - (front2.size : Int)) = false := bne_self_eq_false _
                clear c13 c14
                go_wp2_with (first | (go_at_call 16; (first | ((with_reducible refine kE0.mono ?_); rintro e w8 ⟨rfl, rfl⟩) | ((with_reducible refine (kE _).mono ?_); rintro e w8 ⟨rfl, rfl⟩))) | (go_at_call 15; refine (kn _ _).mono ?_; rintro e w8 ⟨rfl, ⟨nd, rfl⟩⟩) | (go_at_call 17; (with_reducible refine (kL _).mono ?_); rintro e w8 ⟨rfl, rfl⟩))
                go_roundw
                case rel => exact ⟨j + 1, F.1, v5, ab, front2, last2, by have := HJ.out; omega, by go_num, rfl, rfl, rfl, HGO, ⟨HA6.out.drewN _⟩, HO5, ⟨pw_below_drewN HB6.out _⟩⟩
                case measure => have := HJ.out; simp [intOf]; omega
              · have t3 : (F.1.err == 0) = false := beq_eq_false_iff_ne.mpr c14
                clear c13 c14
                go_wp2_with (first | (go_at_call 16; (first | ((with_reducible refine kE0.mono ?_); rintro e w8 ⟨rfl, rfl⟩) | ((with_reducible refine (kE _).mono ?_); rintro e w8 ⟨rfl, rfl⟩))) | (go_at_call 15; refine (kn _ _).mono ?_; rintro e w8 ⟨rfl, ⟨nd, rfl⟩⟩))
                go_roundw
                case rel => exact ⟨j + 1, F.1, v5, ab, front2, last2, by have := HJ.out; omega, by go_num, rfl, rfl, rfl, HGO, ⟨HA6.out.drewN _⟩, HO5, ⟨pw_below_drewN HB6.out _⟩⟩
                case measure => have := HJ.out; simp [intOf]; omega
            · rw [if_neg c10] at hG
              cases hG
        · rw [if_neg c2] at hG
          cases hG
      · have p0 : decide ((j : Int) < (l0.length : Int)) = false := decide_eq_false (by omega)
        have p0n : decide (j < l0.length) = false := decide_eq_false hlt
        have hG := HG.out
        rw [List.drop_of_length_le (by omega)] at hG
        obtain rfl := Option.some.inj hG
        clear hG HG
        go_wp2_with (go_at_call 10; refine (kl _).mono ?_; rintro e w9 ⟨rfl, hb9⟩)
        go_ret
        exact ⟨rfl, below_step HB.out hb9⟩
  · rw [if_neg c1] at h
    obtain rfl := Option.some.inj h
    obtain rfl : s = false := by simpa using c1
    clear h c1
    go_enter Try.func8, Try.ntmps8
    go_wp2_with (first | (go_at_call 9; refine ks.mono ?_; rintro e w1 ⟨rfl, ⟨nd, rfl⟩⟩) | (go_at_call 10; refine (kl _).mono ?_; rintro e w9 ⟨rfl, hb9⟩))
    go_ret
    exact ⟨rfl, below_step (pw_below_drewN (Below.refl w.heap.size w) nd) hb9⟩
theorem wharflaw12_FlapRight.callsT (k : Nat) (A0 : Option Addr) (c0 : Nat) (l0 : List ByteArray) (r : Bool) (w : World) (hr0 : Kd.C Kd.string w A0 l0.length l0) (hc0 : l0.length ≤ c0) (_ : Aside0 (r = true)) (h : wharflaw12_FlapRight.f k l0 = some r) :
    Calls Try.prog 8 #[.slice A0 l0.length c0] w fun e w' => e = .returned (.bool r) ∧ Below w.heap.size w w' := wharflaw12_FlapRight.calls k A0 c0 l0 r w hr0 hc0 h

end Go.Proofs.Ythncdeeakhilfaa.H
