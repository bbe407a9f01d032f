-- written by hp.py for this claim, out of the kit's printer and texts of my own
import Derived.Test.YtlcnhmigbdaajaaHx0
import Derived.Test.YtlcnhmigbdaajaaHx4
import Derived.Test.YtlcnhmigbdaajaaHx5
import Derived.Test.YtlcnhmigbdaajaaHx7
import Derived.Test.YtlcnhmigbdaajaaHx8
import Derived.Test.YtlcnhmigbdaajaaHx15
import Derived.Test.YtlcnhmigbdaajaaHx20001
import Derived.Test.YtlcnhmigbdaajaaHx20005
import Derived.Test.YtlcnhmigbdaajaaHx20006
import Derived.Test.YtlcnhmigbdaajaaHx20007
import Derived.Test.YtlcnhmigbdaajaaHx20009
import Derived.Test.YtlcnhmigbdaajaaHx20010
import Derived.Test.YtlcnhmigbdaajaaHx20012
import Derived.Test.YtlcnhmigbdaajaaHx20013
import Derived.Test.YtlcnhmigbdaajaaHx20014
import Derived.Test.YtlcnhmigbdaajaaHx20014
import Derived.Test.YtlcnhmigbdaajaaHx4
import Derived.Test.YtlcnhmigbdaajaaHx15
import Derived.Lib.Hide
import Derived.Deep.LoopGhost
import Derived.Deep.RegionHeld3
import Derived.Deep.DeepCutAuto
namespace Go.Proofs.Ytlcnhmigbdaajaa.H
open Go.RowKit Go.Proofs.YtlcnhmigbdaajaaW.PrintWords Go.Proofs.YtlcnhmigbdaajaaW.PrintLast Go.Proofs.YtlcnhmigbdaajaaW.PrintMore
attribute [local go_sem] max2_int min2_int max_two min_two max_three min_three max_four min_four   -- for this text's walks alone
set_option linter.unusedVariables false
set_option linter.unusedSimpArgs false

def wharflaw20_TimerRuns.f (k : Nat) (l : List S32) : Option Bool := (wharflaw20_small.f k l).bind fun b => if onceOk l b = true then some true else none
theorem texts_go (l : List ByteArray) (h : l.length ≤ 1000) : ∀ (d i k : Nat), i + d = l.length → d < k → wharfref20_Texts.l0 k l l (i : Int) = some true := by
  intro d
  induction d with
  | zero =>
    intro i k hi hk
    obtain ⟨k, rfl⟩ : ∃ m, k = m + 1 := ⟨k - 1, by omega⟩
    simp only [wharfref20_Texts.l0]
    rw [if_neg (by omega)]
  | succ d ih =>
    intro i k hi hk
    obtain ⟨k, rfl⟩ : ∃ m, k = m + 1 := ⟨k - 1, by omega⟩
    simp only [wharfref20_Texts.l0]
    have e : wrap64 ((i : Int) + 1) = ((i + 1 : Nat) : Int) := by simp only [wrap64]; omega
    rw [if_pos (by omega), if_pos (by omega), if_pos (by omega), if_pos trivial, e]
    exact ih (i + 1) k (by omega) (by omega)
theorem texts_same (l : List ByteArray) (h : l.length ≤ 1000) : wharfref20_Texts.f (l.length + 1) l l = some true := by
  unfold wharfref20_Texts.f
  rw [if_pos rfl]
  exact texts_go l h l.length 0 _ (by omega) (by omega)
/-- what is known in the middle of a round -/
def RunsMid (w : World) (gr ga : Nat) (x : S32) (j : Nat) (W : World) (H L : List S58) (last : Int) : Prop :=
  H.length ≤ j ∧ 0 ≤ last ∧ last ≤ j ∧ TRel H L last ∧ ∃ v v2, TimAt w.heap.size W w.heap.size H last v ∧ RefAt w.heap.size W gr L last v2 ∧ Below w.heap.size w W ∧ W.heap[ga]? = some (.cells #[.int .i64 x.f0, .int .i64 x.f1, .string x.f2] 32 (0, 0)) ∧ w.heap.size ≤ ga
set_option maxRecDepth 100000 in
set_option maxHeartbeats 4000000 in
theorem wharflaw20_TimerRuns.calls (k : Nat) (A0 : Option Addr) (c0 : Nat) (l0 : List S32) (r : Bool) (w : World) (hr0 : Kd.C k32 w A0 l0.length l0) (hc0 : l0.length ≤ c0) (h : wharflaw20_TimerRuns.f k l0 = some r) :
    Calls Try.prog 3 #[.slice A0 l0.length c0] w fun e w' => e = .returned (.bool r) ∧ Below w.heap.size w w' := by
  obtain ⟨b, hb, h⟩ := Option.bind_eq_some_iff.mp h
  split at h
  case isFalse => cases h
  rename_i hok
  obtain rfl := Option.some.inj h
  have kS := wharflaw20_small.calls k A0 c0 l0 b w hr0 hc0 hb
  clear h hb hc0
  cases b with
  | false =>
    clear hr0 hok
    go_enter Try.func3, Try.ntmps3
    go_wp2_with (first | (go_at_call 7; refine kS.mono ?_; rintro e w1 ⟨rfl, ⟨nd, rfl⟩⟩) | (go_at_call 8; refine (wharflaw20_live.calls true _ rfl).mono ?_; rintro e w9 ⟨rfl, hb9⟩))
    go_ret
    exact ⟨rfl, below_step (pw_below_drewN (Below.refl _ _) nd) hb9⟩
  | true =>
    have hl0 : l0.length ≤ 100 := by
      unfold onceOk at hok
      simp at hok
      exact hok.1
    have HR0 := Aside0.mk hr0
    obtain ⟨n0, hn0⟩ : ∃ n0, l0.length = n0 := ⟨_, rfl⟩
    rw [hn0] at kS hl0 ⊢
    have HN0 := Aside0.mk hn0
    clear hr0 hok hn0
    go_enter Try.func3, Try.ntmps3
    go_upto_region 4 with (first | (go_at_call 7; refine kS.mono ?_; rintro e w1 ⟨rfl, ⟨nd, rfl⟩⟩; clear kS) | (go_at_call 9; refine (new_calls w.heap.size _ (by simp)).mono ?_; rintro e w1 ⟨rfl, hT, hb⟩; have HT := Aside0.mk hT; have HB := Aside0.mk (below_step (pw_below_drewN (Below.refl w.heap.size w) nd) hb); clear hT hb))
    have HX : Aside0 (TimAt w.heap.size (w1.alloc (.cells #[.slice none 0 0, .int .i64 0] 30)) w.heap.size [] 0 (.slice none 0 0) ∧ RefAt w.heap.size (w1.alloc (.cells #[.slice none 0 0, .int .i64 0] 30)) w1.heap.size [] 0 (.slice none 0 0) ∧ Below w.heap.size w (w1.alloc (.cells #[.slice none 0 0, .int .i64 0] 30))) :=
      ⟨HT.out.below (below_alloc (Below.refl _ _) _), ⟨heap_alloc_new _ _, Kd.R_nil _ _ _ _ _, HB.out.size⟩, below_alloc HB.out _⟩
    clear HT HB
    go_wp2_with fail
    generalize w1.heap.size = gr at *
    go_loopg [5] (n0 + 1) (fun gk q wr => ∃ (j : Nat) (H L : List S58) (last : Int) (v v2 : Value), n0 - j < gk ∧ j ≤ n0 ∧ H.length ≤ j ∧ 0 ≤ last ∧ last ≤ j ∧ q = .int .i64 j ∧ Aside0 (TRel H L last ∧ TimAt w.heap.size wr w.heap.size H last v ∧ RefAt w.heap.size wr gr L last v2 ∧ Below w.heap.size w wr))
    case atStart => exact ⟨0, [], [], 0, _, _, by omega, by omega, Nat.le_refl _, by omega, by omega, rfl, ⟨TRel.empty, HX.out.1, HX.out.2.1, HX.out.2.2⟩⟩
    case round =>
      obtain ⟨j, H, L, last, v, v2, hgk, hj, hHj, hl1, hl2, rfl, HH⟩ := hrel
      clear HX
      by_cases hlt : j < n0
      · obtain ⟨ad, e, x0, x1, x2⟩ := at_T32 (Kd.C_below HR0.out HH.out.2.2.2) (j : Int) (by omega) (by have := HN0.out; omega)
        subst e
        rw [Int.toNat_natCast] at x0 x1 x2
        generalize rd_T32 l0 (j : Int) = x at *
        have hbk := heap_alloc_new wr (.cells #[.int .i64 x.f0, .int .i64 x.f1, .string x.f2] 32)
        have HY : Aside0 (RunsMid w gr wr.heap.size x j (wr.alloc (.cells #[.int .i64 x.f0, .int .i64 x.f1, .string x.f2] 32)) H L last) := ⟨hHj, hl1, hl2, HH.out.1, _, _, HH.out.2.1.below (below_alloc (Below.refl _ _) _), HH.out.2.2.1.below (below_alloc (Below.refl _ _) _), below_alloc HH.out.2.2.2 _, hbk, HH.out.2.2.2.size⟩
        clear HH hbk hHj hl1 hl2
        go_upto_block 2 with (fail)
        clear x0 x1 x2
        generalize wr.alloc (.cells #[.int .i64 x.f0, .int .i64 x.f1, .string x.f2] 32) = wa at *
        generalize wr.heap.size = ga at *
        go_cut [] (fun wx => Aside0 (∃ H2 L2 last2, RunsMid w gr ga x (j + 1) wx H2 L2 last2))
        case first =>
          obtain ⟨hHj, hl1, hl2, hR, v, v2, hT, hF, hB, hbk, hga⟩ := HY.out
          have HZ := Aside0.mk (And.intro hR (And.intro hT (And.intro hF (And.intro hB (And.intro hbk hga)))))
          have z1 : wa.cell? ⟨ga, 1, none⟩ = some (.int .i64 x.f1) := (blk_cell hbk 1).trans rfl
          have z2 : wa.cell? ⟨ga, 2, none⟩ = some (.string x.f2) := (blk_cell hbk 2).trans rfl
          have hLH := hR.length
          have HLH := Aside0.mk hLH
          clear hR hT hF hB hbk hga hLH HY
          by_cases k0 : x.f0 = 0
          · have e0 : (x.f0 == 0) = true := by simp [k0]
            clear k0
            by_cases c1 : 256 < x.f2.size ∨ x.f1 < 0
            · have kA := addBad_calls _ _ _ _ _ x.f1 x.f2 _ HZ.out.2.1 hl1 (by omega) HZ.out.2.2.2.1.size c1
              have hRA : refAdd L last x.f1 x.f2 = (0, 2, L, last) := if_pos c1
              have HRA := Aside0.mk hRA
              clear hRA c1
              go_wp2_with (first
                | (go_at_call 10; refine kA.mono ?_; rintro e w2 ⟨rfl, v3, hT, hK⟩; have HT := Aside0.mk hT; have HF2 := Aside0.mk (HZ.out.2.2.1.tim hK); have HB2 := Aside0.mk (hK.below HZ.out.2.2.2.1 HZ.out.2.2.2.1.size); have hb2 := hK.blk HZ.out.2.2.2.2.1 (by decide) (by decide); have HBK := Aside0.mk hb2; have y1 := (blk_cell hb2 1).trans rfl; have y2 := (blk_cell hb2 2).trans rfl; have kR := refAdd_calls _ _ _ _ _ x.f1 x.f2 _ HF2.out hl1 (by omega) HB2.out.size; rw [HRA.out] at kR; clear kA hT hK hb2)
                | (go_at_call 11; refine kR.mono ?_; rintro e w3 ⟨rfl, v4, hF, hK⟩; have HT3 := Aside0.mk (HT.out.ref hK); have HF3 := Aside0.mk hF; have HB3 := Aside0.mk (hK.below HB2.out HB2.out.size); have HBK3 := Aside0.mk (hK.blk HBK.out (by decide)); clear kR hF hK)
                | (go_at_call 12; refine (num_calls _ _).mono ?_; rintro e w4 ⟨rfl, rfl⟩))
              go_meet
              case rel => exact ⟨H, L, last, by omega, hl1, by omega, HZ.out.1, _, _, HT3.out, HF3.out, HB3.out, HBK3.out, HZ.out.2.2.2.2.2⟩
            · have kA := addOk_calls _ _ _ _ _ x.f1 x.f2 _ HZ.out.2.1 hl1 (by omega) HZ.out.2.2.2.1.size c1 (by omega)
              have hRA : refAdd L last x.f1 x.f2 = (last + 1, 0, refPut L ⟨x.f1, last + 1, x.f2⟩, last + 1) := (if_neg c1).trans (if_neg (by have := HLH.out; omega))
              have HRA := Aside0.mk hRA
              clear hRA c1
              go_wp2_with (first
                | (go_at_call 10; refine kA.mono ?_; rintro e w2 ⟨rfl, v3, hT, hK⟩; have HT := Aside0.mk hT; have HF2 := Aside0.mk (HZ.out.2.2.1.tim hK); have HB2 := Aside0.mk (hK.below HZ.out.2.2.2.1 HZ.out.2.2.2.1.size); have hb2 := hK.blk HZ.out.2.2.2.2.1 (by decide) (by decide); have HBK := Aside0.mk hb2; have y1 := (blk_cell hb2 1).trans rfl; have y2 := (blk_cell hb2 2).trans rfl; have kR := refAdd_calls _ _ _ _ _ x.f1 x.f2 _ HF2.out hl1 (by omega) HB2.out.size; rw [HRA.out] at kR; clear kA hT hK hb2)
                | (go_at_call 11; refine kR.mono ?_; rintro e w3 ⟨rfl, v4, hF, hK⟩; have HT3 := Aside0.mk (HT.out.ref hK); have HF3 := Aside0.mk hF; have HB3 := Aside0.mk (hK.below HB2.out HB2.out.size); have HBK3 := Aside0.mk (hK.blk HBK.out (by decide)); clear kR hF hK)
                | (go_at_call 12; refine (num_calls _ _).mono ?_; rintro e w4 ⟨rfl, rfl⟩))
              go_meet
              case rel => exact ⟨_, _, last + 1, by rw [alPushed_length]; omega, by omega, by omega, HZ.out.1.add x.f1 x.f2, _, _, HT3.out, HF3.out, HB3.out, HBK3.out, HZ.out.2.2.2.2.2⟩
          · have e0 : (x.f0 == 0) = false := by simp [k0]
            clear k0
            by_cases k1 : x.f0 = 1
            · have e1 : (x.f0 == 1) = true := by simp [k1]
              clear k1
              go_upto_region 18 with (fail)
              have hTd : TimAt w.heap.size wa.drew w.heap.size H last v := HZ.out.2.1.drewN 1
              have hFd : RefAt w.heap.size wa.drew gr L last v2 := HZ.out.2.2.1.below (below_drew (Below.refl _ _))
              have hBd : Below w.heap.size w wa.drew := below_drew HZ.out.2.2.2.1
              have hbd : wa.drew.heap[ga]? = some (.cells #[.int .i64 x.f0, .int .i64 x.f1, .string x.f2] 32 (0, 0)) := HZ.out.2.2.2.2.1
              have kD := drop_calls _ _ _ _ _ x.f2 _ hTd (by omega)
              have hDD : (L.length : Int) - (alKeep x.f2 L).length = (H.length : Int) - (alKeep x.f2 H).length := by
                have h1 : (alKeep x.f2 H).length = (alKeep x.f2 L).length := (HZ.out.1.perm.filter _).length_eq
                have h2 := HLH.out
                omega
              have HDD := Aside0.mk hDD
              generalize hDg : (H.length : Int) - (alKeep x.f2 H).length = D at kD
              have HDG := Aside0.mk hDg
              have HV := Aside0.mk (And.intro hTd (And.intro hFd (And.intro hBd hbd)))
              clear hTd hFd hBd hbd hDD hDg
              go_cut [75] (fun vb wx => vb = .bool false ∧ Aside0 (∃ v3 v4, TimAt w.heap.size wx w.heap.size (alDropped x.f2 H) last v3 ∧ RefAt w.heap.size wx gr (alKeep x.f2 L) last v4 ∧ Below w.heap.size w wx ∧ wx.heap[ga]? = some (.cells #[.int .i64 x.f0, .int .i64 x.f1, .string x.f2] 32 (0, 0))))
              case first =>
                go_region_held3 (fun w' => w'.cell? ⟨ga, 2, none⟩ = some (.string x.f2))
                  (first | exact (blk_cell HBK3.out 2).trans rfl | exact (blk_cell HBK2.out 2).trans rfl | go_keep)
                  (first
                    | (go_at_call 13; refine kD.mono ?_; rintro e w2 ⟨rfl, v3, hT, hK⟩; have HT2 := Aside0.mk hT; have HF2 := Aside0.mk (HV.out.2.1.tim hK); have HB2 := Aside0.mk (hK.below HV.out.2.2.1 HV.out.2.2.1.size); have HBK2 := Aside0.mk (hK.blk HV.out.2.2.2 (by decide) (by decide)); have kR := refDrop_calls _ _ _ _ _ x.f2 _ HF2.out (by have := HLH.out; omega) HB2.out.size; rw [HDD.out, HDG.out] at kR; clear kD hT hK)
                    | (go_at_call 14; refine kR.mono ?_; rintro e w3 ⟨rfl, v4, hF, hK⟩; have HT3 := Aside0.mk (HT2.out.ref hK); have HF3 := Aside0.mk hF; have HB3 := Aside0.mk (hK.below HB2.out HB2.out.size); have HBK3 := Aside0.mk (hK.blk HBK2.out (by decide)); clear kR hF hK))
                all_goals
                  go_wp2_with fail
                  go_meet
                  case rel => exact ⟨by simp, ⟨_, _, HT3.out, HF3.out, HB3.out, HBK3.out⟩⟩
              case rest =>
                obtain ⟨rfl, HQ⟩ := hcut
                have HHL := Aside0.mk (show (alDropped x.f2 H).length ≤ H.length by rw [(alDropped_perm x.f2 H).length_eq]; exact alKeep_length _ _)
                go_wp2_with fail
                go_meet
                case rel =>
                  obtain ⟨v3, v4, h1, h2, h3, h4⟩ := HQ.out
                  exact ⟨_, _, last, by have := HHL.out; omega, hl1, by omega, HZ.out.1.drop x.f2, v3, v4, h1, h2, h3, h4, HZ.out.2.2.2.2.2⟩
            · have e1 : (x.f0 == 1) = false := by simp [k1]
              clear k1
              by_cases k2 : x.f0 = 2
              · have e2 : (x.f0 == 2) = true := by simp [k2]
                clear k2
                go_upto_region 21 with (fail)
                have hTd : TimAt w.heap.size wa.drew w.heap.size H last v := HZ.out.2.1.drewN 1
                have hFd : RefAt w.heap.size wa.drew gr L last v2 := HZ.out.2.2.1.below (below_drew (Below.refl _ _))
                have hBd : Below w.heap.size w wa.drew := below_drew HZ.out.2.2.2.1
                have hbd : wa.drew.heap[ga]? = some (.cells #[.int .i64 x.f0, .int .i64 x.f1, .string x.f2] 32 (0, 0)) := HZ.out.2.2.2.2.1
                have kD := due_calls _ _ _ _ _ x.f1 _ hTd (by omega) hBd.size
                obtain ⟨ho1, _, _⟩ := alDue_ok x.f1 H.length H (Nat.le_refl _)
                obtain ⟨hq1, hq2⟩ := TRel.due x.f1 last H.length H L (Nat.le_refl _) HZ.out.1
                generalize alDue x.f1 H.length H = R at *
                obtain ⟨out, H2⟩ := R
                simp only at ho1 hq1 hq2
                have HQQ := Aside0.mk (And.intro hq1 hq2)
                have hH2 : H2.length ≤ H.length := by omega
                have hout : out.length ≤ 1000 := by omega
                have HOUT := Aside0.mk (texts_same out hout)
                have HV := Aside0.mk (And.intro hTd (And.intro hFd (And.intro hBd hbd)))
                clear hTd hFd hBd hbd ho1 hq1 hq2
                go_cut [87] (fun vb wx => vb = .bool false ∧ Aside0 (∃ v3 v4, TimAt w.heap.size wx w.heap.size H2 last v3 ∧ RefAt w.heap.size wx gr (refDue x.f1 L).2 last v4 ∧ Below w.heap.size w wx ∧ wx.heap[ga]? = some (.cells #[.int .i64 x.f0, .int .i64 x.f1, .string x.f2] 32 (0, 0))))
                case first =>
                  go_region_held3 (fun w' => w'.cell? ⟨ga, 1, none⟩ = some (.int .i64 x.f1))
                    (first | exact (blk_cell HBK4.out 1).trans rfl | exact (blk_cell HBK3.out 1).trans rfl | exact (blk_cell HBK2.out 1).trans rfl | go_keep)
                    (first
                      | (go_at_call 16; refine kD.mono ?_; rintro e w2 ⟨u, rfl, hU, v3, hT, hK⟩; obtain ⟨AU, cU, rfl⟩ := own_slice hU; have HU2 := Aside0.mk hU; have HT2 := Aside0.mk hT; have HF2 := Aside0.mk (HV.out.2.1.tim hK); have HB2 := Aside0.mk (hK.below HV.out.2.2.1 HV.out.2.2.1.size); have HBK2 := Aside0.mk (hK.blk HV.out.2.2.2 (by decide) (by decide)); have kR := refDue_calls _ _ _ _ _ x.f1 _ HF2.out (by have := HLH.out; omega) HB2.out.size; clear kD hU hT hK)
                      | (go_at_call 17; refine kR.mono ?_; rintro e w3 ⟨u3, rfl, hU, v4, hF, hK⟩; rw [← HQQ.out.1] at hU; obtain ⟨AV, cV, rfl⟩ := own_slice hU; have hU2 := hK.ownRow HU2.out (by decide); have HT3 := Aside0.mk (HT2.out.ref hK); have HF3 := Aside0.mk hF; have HB3 := Aside0.mk (hK.below HB2.out HB2.out.size); have HBK3 := Aside0.mk (hK.blk HBK2.out (by decide)); have r1 := StrRow.readsAt hU2; have r2 := StrRow.readsAt hU; have kT := wharfref20_Texts.calls _ AU cU out AV cV out true w3 r1.2.2 r1.2.1 r2.2.2 r2.2.1 HOUT.out; clear kR hF hK hU hU2 r1 r2)
                      | (go_at_call 15; refine kT.mono ?_; rintro e w4 ⟨rfl, ⟨nd, rfl⟩⟩; have HT4 := Aside0.mk (HT3.out.drewN nd); have HF4 := Aside0.mk (HF3.out.below (pw_below_drewN (Below.refl _ _) nd)); have HB4 := Aside0.mk (pw_below_drewN HB3.out nd); have HBK4 := Aside0.mk (blk_drewN HBK3.out nd); clear kT))
                  all_goals
                    go_wp2_with fail
                    go_meet
                    case rel => exact ⟨rfl, ⟨_, _, HT4.out, HF4.out, HB4.out, HBK4.out⟩⟩
                case rest =>
                  obtain ⟨rfl, HQ⟩ := hcut
                  go_wp2_with fail
                  go_meet
                  case rel =>
                    obtain ⟨v3, v4, h1, h2, h3, h4⟩ := HQ.out
                    exact ⟨_, _, last, by omega, hl1, by omega, HQQ.out.2, v3, v4, h1, h2, h3, h4, HZ.out.2.2.2.2.2⟩
              · have e2 : (x.f0 == 2) = false := by simp [k2]
                clear k2 z1 z2
                go_wp2_with fail
                go_meet
                case rel => exact ⟨H, L, last, by omega, hl1, by omega, HZ.out.1, _, _, HZ.out.2.1, HZ.out.2.2.1, HZ.out.2.2.2.1, HZ.out.2.2.2.2.1, HZ.out.2.2.2.2.2⟩
        case rest =>
          obtain ⟨H2, L2, last2, hHj, hl1, hl2, hR, v3, v4, hT, hF, hB, hbk, hga⟩ := hcut.out
          clear hcut HY
          obtain ⟨A4, c4, rfl, hc4, _⟩ := hF.reads
          have kN := next_calls _ _ _ _ _ _ hT
          have kM := refNext_calls _ _ _ _ _ _ hF
          rw [← hR.next] at kM
          have hz2 : wc.cell? ⟨ga, 2, none⟩ = some (.string x.f2) := (blk_cell hbk 2).trans rfl
          have hzr := hF.cell
          have hLH := hR.length
          rw [← hLH] at hzr hc4
          have hh := hR.has x.f2
          generalize alNext H2 = N at *
          obtain ⟨na, nb⟩ := N
          have HZ := Aside0.mk (And.intro hR (And.intro hT (And.intro hF (And.intro hB (And.intro hbk hga)))))
          obtain ⟨nh, hnh⟩ : ∃ nh, H2.length = nh := ⟨_, rfl⟩
          have HNH := Aside0.mk (And.intro hnh hLH)
          rw [hnh] at hzr hHj
          have hTd : TimAt w.heap.size wc.drew w.heap.size H2 last2 v3 := hT.drewN 1
          have hFd : RefAt w.heap.size wc.drew gr L2 last2 (.slice A4 L2.length c4) := hF.below (below_drew (Below.refl _ _))
          have hBd : Below w.heap.size w wc.drew := below_drew hB
          have hbd : wc.drew.heap[ga]? = some (.cells #[.int .i64 x.f0, .int .i64 x.f1, .string x.f2] 32 (0, 0)) := hbk
          have kLn := len_calls _ _ _ _ _ _ hTd
          rw [hnh] at kLn
          have kH := has_calls _ _ _ _ _ x.f2 _ hTd (by omega)
          rw [hh] at kH
          have HV := Aside0.mk (And.intro hTd (And.intro hFd (And.intro hBd hbd)))
          generalize hbh : L2.any (fun x_1 => x_1.f2 == x.f2) = bh at *
          have HBH := Aside0.mk hbh
          clear hbh
          clear hTd hFd hBd hbd hR hT hF hB hbk hga hLH hnh hh hc4
          go_upto_region 25 with (first | (go_at_call 18; refine kN.mono ?_; rintro e w2 ⟨rfl, rfl⟩; clear kN) | (go_at_call 19; refine kM.mono ?_; rintro e w2 ⟨rfl, rfl⟩; clear kM))
          go_cut [126] (fun vb wx => vb = .bool false ∧ Aside0 (∃ v5 v6, TimAt w.heap.size wx w.heap.size H2 last2 v5 ∧ RefAt w.heap.size wx gr L2 last2 v6 ∧ Below w.heap.size w wx))
          case first =>
            have hzrd : wc.drew.cell? ⟨gr, 0, none⟩ = some (.slice A4 nh c4) := hzr
            go_region_held3 (fun w' => w'.cell? ⟨ga, 2, none⟩ = some (.string x.f2) ∧ w'.cell? ⟨gr, 0, none⟩ = some (.slice A4 nh c4))
              (first | exact ⟨(blk_cell HBK3.out 2).trans rfl, Q3.out⟩ | exact ⟨(blk_cell HBK2.out 2).trans rfl, Q2.out⟩ | go_keep)
              (first
                | (go_at_call 20; refine kLn.mono ?_; rintro e w2 ⟨rfl, rfl⟩; clear kLn)
                | (go_at_call 21; refine kH.mono ?_; rintro e w2 ⟨rfl, hb2⟩; have HT2 := Aside0.mk (HV.out.1.below hb2); have HF2 := Aside0.mk (HV.out.2.1.below hb2); have HB2 := Aside0.mk (below_step HV.out.2.2.1 hb2); have HBK2 := Aside0.mk (blk_below HV.out.2.2.2 hb2); have Q2 := Aside0.mk (HF2.out.cell.trans (by rw [← HNH.out.2, HNH.out.1])); have kR := refHas_calls _ _ _ _ _ x.f2 _ HF2.out (by have := HNH.out; omega); rw [HBH.out] at kR; clear kH hb2)
                | (go_at_call 22; refine kR.mono ?_; rintro e w3 ⟨rfl, hb3⟩; have HT3 := Aside0.mk (HT2.out.below hb3); have HF3 := Aside0.mk (HF2.out.below hb3); have HB3 := Aside0.mk (below_step HB2.out hb3); have HBK3 := Aside0.mk (blk_below HBK2.out hb3); have Q3 := Aside0.mk (HF3.out.cell.trans (by rw [← HNH.out.2, HNH.out.1])); clear kR hb3))
            all_goals
              go_wp2_with fail
              go_meet
              case rel => exact ⟨by simp, ⟨_, _, HT3.out, HF3.out, HB3.out⟩⟩
          case rest =>
            obtain ⟨rfl, HQ⟩ := hcut
            obtain ⟨v5, v6, h1, h2, h3⟩ := HQ.out
            have HE := Aside0.mk (And.intro HZ.out.1 (And.intro h1 (And.intro h2 h3)))
            have hHL : H2.length ≤ j + 1 := by rw [HNH.out.1]; exact hHj
            clear h1 h2 h3 HQ
            go_wp2_with fail
            go_roundg (n0 - j)
            case measure => omega
            case rel => exact ⟨j + 1, H2, L2, last2, v5, v6, by omega, by omega, hHL, hl1, by omega, rfl, HE⟩
      · have d0 : decide ((j : Int) < (n0 : Int)) = false := decide_eq_false (by omega)
        clear HR0
        go_wp2_with (go_at_call 8; refine (wharflaw20_live.calls true _ rfl).mono ?_; rintro e w9 ⟨rfl, hb9⟩)
        go_ret
        exact ⟨rfl, below_step HH.out.2.2.2 hb9⟩
theorem wharflaw20_TimerRuns.callsT (k : Nat) (A0 : Option Addr) (c0 : Nat) (l0 : List S32) (r : Bool) (w : World) (hr0 : Kd.C k32 w A0 l0.length l0) (hc0 : l0.length ≤ c0) (_ : Aside0 (r = true)) (h : wharflaw20_TimerRuns.f k l0 = some r) :
    Calls Try.prog 3 #[.slice A0 l0.length c0] w fun e w' => e = .returned (.bool r) ∧ Below w.heap.size w w' := wharflaw20_TimerRuns.calls k A0 c0 l0 r w hr0 hc0 h

end Go.Proofs.Ytlcnhmigbdaajaa.H
