-- written by hp.py for this claim, out of the kit's printer and texts of my own
import Derived.Test.YthncdeeakhilfaaHx0
import Derived.Test.YthncdeeakhilfaaHx15
import Derived.Test.YthncdeeakhilfaaHx18
import Derived.Test.YthncdeeakhilfaaHx20
import Derived.Test.YthncdeeakhilfaaHx20001
import Derived.Test.YthncdeeakhilfaaHx20002
import Derived.Test.YthncdeeakhilfaaHx20003
import Derived.Test.YthncdeeakhilfaaHx20003
import Derived.Test.YthncdeeakhilfaaHx18
import Derived.Test.YthncdeeakhilfaaHx15
import Derived.Deep.QuietTactic
import Derived.BigQuiet
import Derived.WalkKit
namespace Go.Proofs.Ythncdeeakhilfaa.H
open Go.RowKit Go.Proofs.YthncdeeakhilfaaW.PrintWords Go.Proofs.YthncdeeakhilfaaW.PrintLast Go.Proofs.YthncdeeakhilfaaW.PrintMore
attribute [local go_sem] max2_int min2_int max_two min_two max_three min_three max_four min_four   -- for this text's walks alone
set_option linter.unusedVariables false
set_option linter.unusedSimpArgs false

def wharflaw12_live.f : Option Bool := some true
def flapLiveS : ByteArray := ⟨#[42, 1, 255, 255, 0, 2, 97, 98, 42, 2, 0, 0, 0, 0, 42]⟩
theorem flapLive_run : flapRun (Bytes.L flapLiveS) flapNew [] = (⟨0, 0, ⟨#[]⟩, [42], 0, 1, 0⟩, [⟨1, 65535, ⟨#[97, 98]⟩⟩, ⟨2, 0, ⟨#[]⟩⟩]) := by rfl
/-- what has come of the first bytes -/
def flapTo (b : ByteArray) (k : Nat) : FlapSt × List S37 := flapRun ((Bytes.L b).take k) flapNew []
theorem flapTo_step (b : ByteArray) (k : Nat) (hk : k < b.size) : flapTo b (k + 1) = ((flapRun (Bytes.L (b.extract k (k + 1))) (flapTo b k).1 []).1, (flapTo b k).2 ++ (flapRun (Bytes.L (b.extract k (k + 1))) (flapTo b k).1 []).2) := by
  have e : Bytes.L (b.extract k (k + 1)) = ((Bytes.L b).drop k).take 1 := by rw [Bytes.L_extract, show k + 1 - k = 1 by omega]
  unfold flapTo
  rw [e, List.take_add, flapRun_append, flapRun_out]
set_option maxRecDepth 100000 in
set_option maxHeartbeats 4000000 in
theorem wharflaw12_live.calls (r : Bool) (w : World) (h : wharflaw12_live.f = some r) :
    Calls Try.prog 10 #[] w fun e w' => e = .returned (.bool r) ∧ Below w.heap.size w w' := by
  obtain rfl := Option.some.inj h
  clear h
  have k1 := fun W => flap_Put.calls 100 1 65535 ⟨#[97, 98]⟩ ⟨#[42, 1, 255, 255, 0, 2, 97, 98]⟩ 0 W (by decide +kernel)
  have k2 := fun W => flap_Put.calls 100 2 0 ⟨#[]⟩ ⟨#[42, 2, 0, 0, 0, 0]⟩ 0 W (by decide +kernel)
  have k3 := fun W => flap_Put.calls 100 6 0 ⟨#[]⟩ ⟨#[]⟩ 2 W (by decide +kernel)
  have k4 := fun W => flap_Next.calls 65535 0 W (by decide +kernel)
  have k5 := fun W => flap_Next.calls 4 5 W (by decide +kernel)
  go_enter Try.func10, Try.ntmps10
  go_wp2_with (first | (go_at_call 18; (first | ((with_reducible refine (k1 _).mono ?_); rintro e w1 ⟨rfl, hb1⟩; have HB1 := Aside0.mk hb1; clear hb1) | ((with_reducible refine (k2 _).mono ?_); rintro e w3 ⟨rfl, hb3⟩; have HB3 := Aside0.mk (below_step HB2.out hb3); clear hb3))) | (go_at_call 20; refine (k4 _).mono ?_; rintro e w2 ⟨rfl, ⟨nd, rfl⟩⟩; have HB2 := Aside0.mk (pw_below_drewN HB1.out nd)) | (go_at_call 11; refine (flapNew_calls w.heap.size _ HB3.out.size).mono ?_; rintro e w4 ⟨rfl, hA, hb4⟩; have HA := Aside0.mk hA; have HB4 := Aside0.mk (below_step HB3.out hb4); clear hA hb4))
  generalize hS : (⟨#[42, 1, 255, 255, 0, 2, 97, 98]⟩ ++ ⟨#[42, 2, 0, 0, 0, 0]⟩ ++ ⟨#[42]⟩ : ByteArray) = bS
  have hS' : bS = flapLiveS := by rw [← hS]; decide +kernel
  have HZ : Aside0 (bS.size = 15) := ⟨by rw [hS']; rfl⟩
  have HR : Aside0 (flapTo bS 15 = (⟨0, 0, ⟨#[]⟩, [42], 0, 1, 0⟩, [⟨1, 65535, ⟨#[97, 98]⟩⟩, ⟨2, 0, ⟨#[]⟩⟩])) := ⟨by
    unfold flapTo
    rw [hS', List.take_of_length_le (by decide)]
    exact flapLive_run⟩
  clear hS hS'
  generalize w3.heap.size = g at *
  have HA' : Aside0 (FlapAt w.heap.size w4 g (flapTo bS 0).1 (.slice none 0 0)) := HA
  clear HA HB1 HB2 HB3
  go_loopw [6, 8] (fun u i wr => ∃ (k : Nat) (v : Value), k ≤ 15 ∧ i = .int .i64 k ∧ Aside0 (FlapAt w.heap.size wr g (flapTo bS k).1 v) ∧ Aside0 (Below w.heap.size w wr) ∧ Aside0 (k37.R 37 wr w.heap.size (fun _ => True) u (flapTo bS k).2)) (fun _ i _ => 15 - (intOf i).toNat)
  case atStart => exact ⟨0, _, Nat.zero_le _, rfl, HA', HB4, ⟨Kd.R_nil _ _ _ _ _⟩⟩
  case round =>
    clear HA' HB4
    obtain ⟨k, v, hk, rfl, HA, HB, HU⟩ := hrel
    by_cases hlt : k < 15
    · have p0 : decide ((k : Int) < (bS.size : Int)) = true := decide_eq_true (by have := HZ.out; omega)
      have p0n : decide (k < bS.size) = true := decide_eq_true (by have := HZ.out; omega)
      have p1 : ((k : Int) + 1 ≤ (bS.size : Int)) = True := eq_true (by have := HZ.out; omega)
      have p2 : (k + 1 ≤ bS.size) = True := eq_true (by have := HZ.out; omega)
      have hsl : ∀ wx : World, (Instr.slice 9 (.string bS) (some (.int .i64 (k : Int))) (some (.int .i64 ((k : Int) + 1))) none).run Try.prog wx = .ok (.string (bS.extract k (k + 1))) wx := fun wx => by
        have := run_slice_string (P := Try.prog) wx 9 bS .i64 .i64 (k : Int) ((k : Int) + 1) Try.underlying9 (by omega) (by omega) (by have := HZ.out; omega)
        rw [Int.toNat_natCast, show ((k : Int) + 1).toNat = k + 1 by omega] at this
        exact this
      have kF := flapFeed_calls w.heap.size g (flapTo bS k).1 v (bS.extract k (k + 1)) wr HA.out (flapRun_ok _ _ _ flapNew_ok) (by have := HZ.out; rw [ByteArray.size_extract]; omega) HB.out.size
      have HST := Aside0.mk (flapTo_step bS k (by have := HZ.out; omega))
      have HL1 := Aside0.mk (flapRun_len ((Bytes.L bS).take k) flapNew [])
      have HL2 := Aside0.mk (flapRun_len (Bytes.L (bS.extract k (k + 1))) (flapTo bS k).1 [])
      have HS1 := Aside0.mk HB.out.size
      have HLX : Aside0 (((flapTo bS k).2.length + (flapRun (Bytes.L (bS.extract k (k + 1))) (flapTo bS k).1 []).2.length) * 32 ≤ 140737488355328) := ⟨by
        have h1 : (flapTo bS k).2.length ≤ 15 := Nat.le_trans HL1.out (by rw [List.length_take]; simp; omega)
        have h2 := HL2.out
        have h3 : (Bytes.L (bS.extract k (k + 1))).length ≤ 15 := by
          have : (Bytes.L (bS.extract k (k + 1))).length = (bS.extract k (k + 1)).size := rfl
          rw [this, ByteArray.size_extract, HZ.out]
          omega
        simp only [List.length_nil, Nat.zero_add] at h2
        omega⟩
      generalize flapRun (Bytes.L (bS.extract k (k + 1))) (flapTo bS k).1 [] = F at *
      go_wp2_with (first | (go_at_call 12; refine kF.mono ?_; rintro e w5 ⟨u5, v5, rfl, hU5, hA5, hK5⟩; obtain ⟨A5, c5, rfl, hle5, hC5⟩ := Kd.R_reads hU5; have HA5 := Aside0.mk hA5; have HU5 := Aside0.mk (hK5.row HU.out (by decide)); have HB5 := Aside0.mk (hK5.below HB.out HB.out.size); have HC5 := Aside0.mk hC5; clear hU5 hA5 hK5 hle5 hC5) | ((with_reducible refine gate_builtin (b := .append) (xs := #[.tmp 35, .tmp 42]) rfl ?_); at_builtin; refine Kd.R_append_rows k37 (Rr := k37.K w5) (w0 := w5) w.heap.size rfl (.tmp 35) (.tmp 42) 27 37 (.agg #[(.int .i64 0), (.int .i64 0), (.string ⟨#[]⟩)]) 32 rfl Try.underlying27 info37 rfl (by decide) (by decide) u6 (flapTo bS k).2 F.2 A5 F.2.length c5 (fun _ => True) (fun _ => False) rfl rfl HU5.out HC5.out flapKM (fun _ hk => hk.elim) (fun _ _ => trivial) (Below.refl _ _) HB5.out.size HLX.out ?_; intro v6 w6 ho hb hg hat; have HU6 := Aside0.mk ho; have HB6 := Aside0.mk hb; have HG6 := Aside0.mk hg; clear ho hb hg hat))
      go_roundw
      case rel =>
        refine ⟨k + 1, v5, by omega, by go_num, ⟨?_⟩, ⟨HB5.out.trans HB6.out⟩, ⟨?_⟩⟩
        · rw [HST.out]
          exact HA5.out.grown HG6.out (fun i hi => by
            obtain ⟨cells, hc⟩ := Kd.R_typed HU5.out i hi
            exact ⟨cells, _, hc, by decide, by decide⟩)
        · rw [HST.out]
          exact HU6.out
      case measure => simp [intOf]; omega
    · have p0 : decide ((k : Int) < (bS.size : Int)) = false := decide_eq_false (by have := HZ.out; omega)
      have p0n : decide (k < bS.size) = false := decide_eq_false (by have := HZ.out; omega)
      have HRk : flapTo bS k = (⟨0, 0, ⟨#[]⟩, [42], 0, 1, 0⟩, [⟨1, 65535, ⟨#[97, 98]⟩⟩, ⟨2, 0, ⟨#[]⟩⟩]) := by
        obtain rfl : k = 15 := by omega
        exact HR.out
      have hA := HA.out
      have hU := HU.out
      rw [HRk] at hA hU
      dsimp only at hA hU
      obtain ⟨g6, c6, rfl, _, _, _⟩ := Kd.R_form hU (by decide)
      have HA' := Aside0.mk hA
      have HC' := Aside0.mk (Kd.R_reads' hU).2.2
      clear HA HU hA hU hlt hk HRk
      go_upto_region 13 with (go_at_call 18; refine (k3 _).mono ?_; rintro e w7 ⟨rfl, hb7⟩; have HB7 := Aside0.mk (below_step HB.out hb7); have HA7 := Aside0.mk (HA'.out.below hb7); have HC7 := Aside0.mk (Kd.C_below HC'.out hb7); clear hb7)
      have x0 : w7.cell? ⟨g6, 2, none⟩ = some (.string ⟨#[97, 98]⟩) := by
        obtain ⟨ad, hA0, _, _, x⟩ := at_T37 HC7.out 0 (by omega) (by decide)
        obtain rfl := Option.some.inj hA0
        rw [add_plain] at x
        exact x
      have x1 : w7.cell? ⟨g6, 4, none⟩ = some (.int .i64 0) := by
        obtain ⟨ad, hA0, _, x, _⟩ := at_T37 HC7.out 1 (by omega) (by decide)
        obtain rfl := Option.some.inj hA0
        rw [add_plain] at x
        exact x
      have kE := fun m => flapErr_calls w.heap.size g _ v (w7.drewN m) (HA7.out.drewN m)
      have kL := fun m => flapLeft_calls w.heap.size g _ v (w7.drewN m) (HA7.out.drewN m)
      have kn := fun a W => wharflaw12_num.calls a a W rfl
      clear HC' HA'
      go_wp2_with (first | (go_at_call 15; refine (kn _ _).mono ?_; rintro e w8 ⟨rfl, ⟨nd, rfl⟩⟩) | (go_at_call 16; refine (kE _).mono ?_; rintro e w8 ⟨rfl, rfl⟩) | (go_at_call 17; refine (kL _).mono ?_; rintro e w8 ⟨rfl, rfl⟩) | (go_at_call 20; refine (k5 _).mono ?_; rintro e w8 ⟨rfl, ⟨nd, rfl⟩⟩))
      go_ret
      exact ⟨rfl, by repeat (first | exact HB7.out | refine pw_below_drewN ?_ _)⟩

end Go.Proofs.Ythncdeeakhilfaa.H
