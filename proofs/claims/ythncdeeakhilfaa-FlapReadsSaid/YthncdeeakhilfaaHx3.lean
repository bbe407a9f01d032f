-- written by hp.py for this claim, out of the kit's printer and texts of my own
import Derived.Test.YthncdeeakhilfaaHx0
import Derived.Test.YthncdeeakhilfaaHx9
import Derived.Test.YthncdeeakhilfaaHx10
import Derived.Test.YthncdeeakhilfaaHx13
import Derived.Test.YthncdeeakhilfaaHx14
import Derived.Test.YthncdeeakhilfaaHx15
import Derived.Test.YthncdeeakhilfaaHx20001
import Derived.Test.YthncdeeakhilfaaHx20002
import Derived.Test.YthncdeeakhilfaaHx20003
import Derived.Test.YthncdeeakhilfaaHx20003
import Derived.Test.YthncdeeakhilfaaHx18
import Derived.Test.YthncdeeakhilfaaHx15
import Derived.Test.YthncdeeakhilfaaHx10
import Derived.Test.YthncdeeakhilfaaHx9
import Derived.Test.YthncdeeakhilfaaHx13
import Derived.Test.YthncdeeakhilfaaHx14
import Derived.Deep.QuietTactic
import Derived.BigQuiet
import Derived.WalkKit
namespace Go.Proofs.Ythncdeeakhilfaa.H
open Go.RowKit Go.Proofs.YthncdeeakhilfaaW.PrintWords Go.Proofs.YthncdeeakhilfaaW.PrintLast Go.Proofs.YthncdeeakhilfaaW.PrintMore
attribute [local go_sem] max2_int min2_int max_two min_two max_three min_three max_four min_four   -- for this text's walks alone
set_option linter.unusedVariables false
set_option linter.unusedSimpArgs false

def flapReadsGo (k : Nat) : List ByteArray → FlapSt → List S37 → ByteArray → Option Bool
  | [], _, _, _ => some true
  | b :: t, st, got, all =>
    if b.size ≤ 1000000 ∧ (got.length + (flapRun (Bytes.L b) st []).2.length) * 32 ≤ 140737488355328 ∧ all.size ≤ 1000000 then
      (wharfref12_All.f k (all ++ b)).bind fun w =>
        (wharfref12_Same.f k (got ++ (flapRun (Bytes.L b) st []).2) w.1).bind fun s =>
          if s = true ∧ (flapRun (Bytes.L b) st []).1.err = w.2.1 ∧ flapLeft (flapRun (Bytes.L b) st []).1 = w.2.2 then
            flapReadsGo k t (flapRun (Bytes.L b) st []).1 (got ++ (flapRun (Bytes.L b) st []).2) (all ++ b)
          else none
    else none
/-- what the law answers where it is true (else none) -/
def wharflaw12_FlapReads.f (k : Nat) (l : List ByteArray) : Option Bool :=
  (wharflaw12_small.f k l).bind fun s => if s = true then flapReadsGo k l flapNew [] ⟨#[]⟩ else some true
set_option maxRecDepth 100000 in
set_option maxHeartbeats 4000000 in
theorem wharflaw12_FlapReads.calls (k : Nat) (A0 : Option Addr) (c0 : Nat) (l0 : List ByteArray) (r : Bool) (w : World) (hr0 : Kd.C Kd.string w A0 l0.length l0) (hc0 : l0.length ≤ c0) (h : wharflaw12_FlapReads.f k l0 = some r) :
    Calls Try.prog 3 #[.slice A0 l0.length c0] w fun e w' => e = .returned (.bool r) ∧ Below w.heap.size w w' := by
  obtain ⟨s, hs, h⟩ := Option.bind_eq_some_iff.mp h
  have ks := wharflaw12_small.calls k A0 c0 l0 s w hr0 hc0 hs
  have kl := fun W => wharflaw12_live.calls true W rfl
  have kn := fun a W => wharflaw12_num.calls a a W rfl
  have HR0 := Aside0.mk hr0
  have HC0 := Aside0.mk hc0
  have HM0 := Aside0.mk (Kd.C_max hr0)
  clear hr0 hc0 hs
  by_cases c1 : s = true
  · subst c1
    rw [if_pos rfl] at h
    have H0 := Aside0.mk h
    clear h
    go_enter Try.func3, Try.ntmps3
    go_wp2_with (first | (go_at_call 9; refine ks.mono ?_; rintro e w1 ⟨rfl, ⟨nd, rfl⟩⟩; have HB1 := Aside0.mk (pw_below_drewN (Below.refl w.heap.size w) nd)) | (go_at_call 11; refine (flapNew_calls w.heap.size _ HB1.out.size).mono ?_; rintro e w4 ⟨rfl, hA, hb4⟩; have HA := Aside0.mk hA; have HB4 := Aside0.mk (below_step HB1.out hb4); clear hA hb4))
    have HA : Aside0 (FlapAt w.heap.size w4 w.heap.size flapNew (.slice none 0 0)) := HA
    go_loopw [4, 5, 6] (fun a u i wr => ∃ (j : Nat) (st : FlapSt) (v : Value) (got : List S37) (all : ByteArray), j ≤ l0.length ∧ i = .int .i64 j ∧ a = .string all ∧ Aside0 (flapReadsGo k (l0.drop j) st got all = some r) ∧ Aside0 (FlapAt w.heap.size wr w.heap.size st v) ∧ Aside0 (FlapOk st) ∧ Aside0 (Below w.heap.size w wr) ∧ Aside0 (k37.R 37 wr w.heap.size (fun _ => True) u got)) (fun _ _ i _ => l0.length - (intOf i).toNat)
    case atStart => exact ⟨0, _, _, [], ⟨#[]⟩, Nat.zero_le _, rfl, rfl, ⟨by rw [List.drop_zero]; exact H0.out⟩, HA, ⟨flapNew_ok⟩, HB4, ⟨Kd.R_nil _ _ _ _ _⟩⟩
    case round =>
      clear H0 HA HB4 HB1
      obtain ⟨j, st, v, got, all, hj, rfl, rfl, HG, HA, HO, HB, HU⟩ := hrel
      by_cases hlt : j < l0.length
      · have p0 : decide ((j : Int) < (l0.length : Int)) = true := decide_eq_true (by omega)
        have p0n : decide (j < l0.length) = true := decide_eq_true hlt
        have hG := HG.out
        rw [List.drop_eq_getElem_cons hlt] at hG
        obtain ⟨ad, rfl, hx⟩ := ReadsOf.at_ (Kd.reads_of_C (enc := Value.string) (d := (⟨#[]⟩ : ByteArray)) (h1 := fun _ => rfl) (Kd.C_below HR0.out HB.out)) (j : Int) (by omega) (by omega)
        have hb : rdOf (⟨#[]⟩ : ByteArray) l0 (j : Int) = l0[j] := by simp [rdOf, List.getD_eq_getElem?_getD, hlt]
        rw [hb, Int.toNat_natCast] at hx
        have HX : Aside0 (∀ W, Below w.heap.size w W → W.cell? (ad.add j) = some (.string l0[j])) := ⟨fun W hW => by
          obtain ⟨ad', e', hx'⟩ := ReadsOf.at_ (Kd.reads_of_C (enc := Value.string) (d := (⟨#[]⟩ : ByteArray)) (h1 := fun _ => rfl) (Kd.C_below HR0.out hW)) (j : Int) (by omega) (by omega)
          obtain rfl := Option.some.inj e'
          rw [hb, Int.toNat_natCast] at hx'
          exact hx'⟩
        generalize l0[j] = b at *
        clear hb
        simp only [flapReadsGo] at hG
        by_cases c2 : b.size ≤ 1000000 ∧ (got.length + (flapRun (Bytes.L b) st []).2.length) * 32 ≤ 140737488355328 ∧ all.size ≤ 1000000
        · rw [if_pos c2] at hG
          obtain ⟨c2, c3, c4⟩ := c2
          obtain ⟨⟨want, er, lf⟩, hAll, hG⟩ := Option.bind_eq_some_iff.mp hG
          obtain ⟨s, hSame, hG⟩ := Option.bind_eq_some_iff.mp hG
          dsimp only at hG hSame
          by_cases c5 : s = true ∧ (flapRun (Bytes.L b) st []).1.err = er ∧ flapLeft (flapRun (Bytes.L b) st []).1 = lf
          · rw [if_pos c5] at hG
            obtain ⟨rfl, c6, c7⟩ := c5
            have kF := flapFeed_calls w.heap.size w.heap.size st v b wr HA.out HO.out c2 HB.out.size
            have HO5 := Aside0.mk (flapRun_ok (Bytes.L b) st [] HO.out)
            have HGO := Aside0.mk hG
            have HLX := Aside0.mk c3
            have HC2 := Aside0.mk c2
            have HC4 := Aside0.mk c4
            clear hG c2 c3 c4 HG
            generalize flapRun (Bytes.L b) st [] = F at *
            subst c6
            subst c7
            have kA := fun W => wharfref12_All.calls k (all ++ b) want F.1.err (flapLeft F.1) W hAll
            have HSM := Aside0.mk hSame
            clear hAll hSame
            go_upto_region 12 with (first | (go_at_call 12; refine kF.mono ?_; rintro e w5 ⟨u5, v5, rfl, hU5, hA5, hK5⟩; obtain ⟨A5, c5, rfl, hle5, hC5⟩ := Kd.R_reads hU5; have HA5 := Aside0.mk hA5; have HU5 := Aside0.mk (hK5.row HU.out (by decide)); have HB5 := Aside0.mk (hK5.below HB.out HB.out.size); have HC5 := Aside0.mk hC5; clear hU5 hA5 hK5 hle5 hC5) | ((with_reducible refine gate_builtin (b := .append) (xs := #[.tmp 23, .tmp 29]) rfl ?_); at_builtin; refine Kd.R_append_rows k37 (Rr := k37.K w5) (w0 := w5) w.heap.size rfl (.tmp 23) (.tmp 29) 27 37 (.agg #[(.int .i64 0), (.int .i64 0), (.string ⟨#[]⟩)]) 32 rfl Try.underlying27 info37 rfl (by decide) (by decide) u5 got F.2 A5 (F.2).length c5 (fun _ => True) (fun _ => False) rfl rfl HU5.out HC5.out flapKM (fun _ hk => hk.elim) (fun _ _ => trivial) (Below.refl _ _) HB5.out.size HLX.out ?_; intro v6 w6 ho hb hg hat; have HU6 := Aside0.mk ho; have HB6 := Aside0.mk hb; have HG6 := Aside0.mk hg; clear ho hb hg hat))
            have HBT := Aside0.mk (HB5.out.trans HB6.out)
            have hx6 := HX.out w6 HBT.out
            have hsum : all.size + b.size ≤ 9223372036854775807 := by have := HC2.out; have := HC4.out; omega
            have HA6 := Aside0.mk (HA5.out.grown HG6.out (fun i hi => by
              obtain ⟨cells, hc⟩ := Kd.R_typed HU5.out i hi
              exact ⟨cells, _, hc, by decide, by decide⟩))
            generalize got ++ F.2 = got2 at *
            obtain ⟨A6, c6, rfl, hle6, hC6⟩ := Kd.R_reads HU6.out
            have HC6 := Aside0.mk hC6
            have HL6 := Aside0.mk hle6
            clear hC6 hle6 HU HU5 HA HA5 HB HB5 HB6 HG6 HC5 hx kF HLX HO
            go_upto_region 14 with (go_at_call 13; refine (kA _).mono ?_; rintro e w7 ⟨v7, rfl, hR7, hb7⟩; obtain ⟨A7, c7, rfl, hle7, hC7⟩ := Kd.R_reads hR7; have HC7 := Aside0.mk hC7; have HL7 := Aside0.mk hle7; have HB7 := Aside0.mk (below_step HBT.out hb7); have HA7 := Aside0.mk (HA6.out.below hb7); have HU7 := Aside0.mk (Kd.R_below HU6.out hb7); have HC67 := Aside0.mk (Kd.C_below HC6.out hb7); clear hR7 hle7 hC7 hb7)
            have kS := wharfref12_Same.calls k A6 c6 got2 A7 c7 want true w7 HC67.out HL6.out HC7.out HL7.out HSM.out
            have kE := fun m => flapErr_calls w.heap.size w.heap.size F.1 v5 (w7.drewN m) (HA7.out.drewN m)
            have kL := fun m => flapLeft_calls w.heap.size w.heap.size F.1 v5 (w7.drewN m) (HA7.out.drewN m)
            generalize flapLeft F.1 = lf at *
            have hm0 := HM0.out
            clear hx6 kA
            go_wp2_with (first | (go_at_call 14; refine kS.mono ?_; rintro e w8 ⟨rfl, ⟨nd, rfl⟩⟩) | (go_at_call 15; refine (kn _ _).mono ?_; rintro e w8 ⟨rfl, ⟨nd, rfl⟩⟩) | (go_at_call 16; refine (kE _).mono ?_; rintro e w8 ⟨rfl, rfl⟩) | (go_at_call 17; refine (kL _).mono ?_; rintro e w8 ⟨rfl, rfl⟩))
            go_roundw
            case rel => exact ⟨j + 1, F.1, v5, got2, all ++ b, by omega, by go_num, rfl, HGO, ⟨HA7.out.drewN _⟩, HO5, ⟨pw_below_drewN HB7.out _⟩, ⟨Kd.R_drewN HU7.out _⟩⟩
            case measure => simp [intOf]; omega
          · rw [if_neg c5] at hG
            cases hG
        · rw [if_neg c2] at hG
          cases hG
      · have p0 : decide ((j : Int) < (l0.length : Int)) = false := decide_eq_false (by omega)
        have p0n : decide (j < l0.length) = false := decide_eq_false hlt
        have hG := HG.out
        rw [List.drop_of_length_le (by omega)] at hG
        obtain rfl := Option.some.inj hG
        clear hG HG
        go_wp2_with (go_at_call 10; refine (kl _).mono ?_; rintro e w9 ⟨rfl, hb9⟩)
        go_ret
        exact ⟨rfl, below_step HB.out hb9⟩
  · rw [if_neg c1] at h
    obtain rfl := Option.some.inj h
    obtain rfl : s = false := by simpa using c1
    clear h c1
    go_enter Try.func3, Try.ntmps3
    go_wp2_with (first | (go_at_call 9; refine ks.mono ?_; rintro e w1 ⟨rfl, ⟨nd, rfl⟩⟩) | (go_at_call 10; refine (kl _).mono ?_; rintro e w9 ⟨rfl, hb9⟩))
    go_ret
    exact ⟨rfl, below_step (pw_below_drewN (Below.refl w.heap.size w) nd) hb9⟩
theorem wharflaw12_FlapReads.callsT (k : Nat) (A0 : Option Addr) (c0 : Nat) (l0 : List ByteArray) (r : Bool) (w : World) (hr0 : Kd.C Kd.string w A0 l0.length l0) (hc0 : l0.length ≤ c0) (_ : Aside0 (r = true)) (h : wharflaw12_FlapReads.f k l0 = some r) :
    Calls Try.prog 3 #[.slice A0 l0.length c0] w fun e w' => e = .returned (.bool r) ∧ Below w.heap.size w w' := wharflaw12_FlapReads.calls k A0 c0 l0 r w hr0 hc0 h

end Go.Proofs.Ythncdeeakhilfaa.H
