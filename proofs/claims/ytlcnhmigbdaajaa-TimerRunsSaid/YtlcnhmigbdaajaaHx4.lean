-- written by hp.py for this claim, out of the kit's printer and texts of my own
import Derived.Test.YtlcnhmigbdaajaaHx0
import Derived.Test.YtlcnhmigbdaajaaHx5
import Derived.Test.YtlcnhmigbdaajaaHx7
import Derived.Test.YtlcnhmigbdaajaaHx8
import Derived.Test.YtlcnhmigbdaajaaHx20001
import Derived.Test.YtlcnhmigbdaajaaHx20005
import Derived.Test.YtlcnhmigbdaajaaHx20007
import Derived.Test.YtlcnhmigbdaajaaHx20009
import Derived.Test.YtlcnhmigbdaajaaHx20010
import Derived.Test.YtlcnhmigbdaajaaHx5
import Derived.Test.YtlcnhmigbdaajaaHx7
import Derived.Test.YtlcnhmigbdaajaaHx8
import Derived.Lib.Hide
import Derived.Deep.LoopGhost
import Derived.StillTailTactics
import Derived.Deep.RegionWith
import Derived.Deep.DeepCutAuto
namespace Go.Proofs.Ytlcnhmigbdaajaa.H
open Go.RowKit Go.Proofs.YtlcnhmigbdaajaaW.PrintWords Go.Proofs.YtlcnhmigbdaajaaW.PrintLast Go.Proofs.YtlcnhmigbdaajaaW.PrintMore
attribute [local go_sem] max2_int min2_int max_two min_two max_three min_three max_four min_four   -- for this text's walks alone
set_option linter.unusedVariables false
set_option linter.unusedSimpArgs false

/-- what the law answers where what came in is a list of whole numbers' times -/
def onceOk (l : List S32) (b : Bool) : Bool := !b || (decide (l.length ≤ 100) && l.all (fun x => decide (x.f1 ≤ 9223372036854775807)))
def wharflaw20_TimerOnce.f (k : Nat) (l : List S32) (nows : List Int) : Option Bool := (wharflaw20_small.f k l).bind fun b => if onceOk l b = true ∧ nows.length ≤ 1000000000000000000 then some true else none
theorem ints_at {w : World} {A : Option Addr} {n : Nat} {xs : List Int} (h : Kd.C (Kd.int .i64) w A n xs) (i : Nat) (h1 : i < n) : ∃ ad, A = some ad ∧ w.cell? (ad.add i) = some (.int .i64 (xs.getD i 0)) := by
  obtain ⟨ad, c, e, _, hK, hc0⟩ := Kd.C_get h 0 (i : Int) (by omega) (by omega)
  have hK' : c = [.int .i64 (xs.getD i 0)] := hK
  subst hK'
  have := hc0 0 _ rfl
  rw [Int.toNat_natCast] at this
  refine ⟨ad, e, ?_⟩
  have e2 : i * (Kd.int .i64).sz + 0 = i := by show i * 1 + 0 = i; omega
  rw [e2] at this
  exact this
/-- an element of the list that came in -/
theorem acts_at {w : World} {A : Option Addr} {xs : List S32} (h : Kd.C k32 w A xs.length xs) (i : Nat) (h1 : i < xs.length) : ∃ ad x, A = some ad ∧ xs[i]? = some x ∧ w.cell? ⟨(ad.add (i * 3)).block, (ad.add (i * 3)).off + 1, none⟩ = some (.int .i64 x.f1) ∧ w.cell? ⟨(ad.add (i * 3)).block, (ad.add (i * 3)).off + 2, none⟩ = some (.string x.f2) := by
  obtain ⟨ad, e, _, h2, h3⟩ := at_T32 h (i : Int) (by omega) (by omega)
  rw [Int.toNat_natCast] at h2 h3
  have e1 : rd_T32 xs (i : Int) = xs[i] := by simp [rd_T32, List.getD_eq_getElem?_getD, h1]
  rw [e1] at h2 h3
  exact ⟨ad, _, e, List.getElem?_eq_getElem h1, h2, h3⟩
set_option maxRecDepth 100000 in
set_option maxHeartbeats 4000000 in
theorem wharflaw20_TimerOnce.calls (k : Nat) (A0 : Option Addr) (c0 : Nat) (l0 : List S32) (A1 : Option Addr) (c1 : Nat) (l1 : List Int) (r : Bool) (w : World) (hr0 : Kd.C k32 w A0 l0.length l0) (hc0 : l0.length ≤ c0) (hr1 : Kd.C (Kd.int .i64) w A1 l1.length l1) (hc1 : l1.length ≤ c1) (h : wharflaw20_TimerOnce.f k l0 l1 = some r) :
    Calls Try.prog 4 #[.slice A0 l0.length c0, .slice A1 l1.length c1] w fun e w' => e = .returned (.bool r) ∧ Below w.heap.size w w' := by
  obtain ⟨b, hb, h⟩ := Option.bind_eq_some_iff.mp h
  split at h
  case isFalse => cases h
  rename_i hok
  obtain rfl := Option.some.inj h
  have kS := wharflaw20_small.calls k A0 c0 l0 b w hr0 hc0 hb
  obtain ⟨hok, hmax⟩ := hok
  clear h hb hc0 hc1
  cases b with
  | false =>
    clear hr0 hr1 hok
    go_enter Try.func4, Try.ntmps4
    go_wp2_with (first | (go_at_call 7; refine kS.mono ?_; rintro e w1 ⟨rfl, ⟨nd, rfl⟩⟩) | (go_at_call 8; refine (wharflaw20_live.calls true _ rfl).mono ?_; rintro e w9 ⟨rfl, hb9⟩))
    go_ret
    exact ⟨rfl, below_step (pw_below_drewN (Below.refl _ _) nd) hb9⟩
  | true =>
    by_cases hn : 100 < l1.length
    · clear hr0 hr1 hok
      go_enter Try.func4, Try.ntmps4
      go_wp2_with (first | (go_at_call 7; refine kS.mono ?_; rintro e w1 ⟨rfl, ⟨nd, rfl⟩⟩) | (go_at_call 8; refine (wharflaw20_live.calls true _ rfl).mono ?_; rintro e w9 ⟨rfl, hb9⟩))
      go_ret
      exact ⟨rfl, below_step (pw_below_drewN (Below.refl _ _) nd) hb9⟩
    · have hok2 : l0.length ≤ 100 ∧ ∀ x ∈ l0, x.f1 ≤ 9223372036854775807 := by
        unfold onceOk at hok
        simpa using hok
      obtain ⟨hl0, hge⟩ := hok2
      have HR0 := Aside0.mk hr0
      have HR1 := Aside0.mk hr1
      have HGE := Aside0.mk hge
      obtain ⟨n0, hn0⟩ : ∃ n0, l0.length = n0 := ⟨_, rfl⟩
      obtain ⟨n1, hn1⟩ : ∃ n1, l1.length = n1 := ⟨_, rfl⟩
      rw [hn0] at kS hl0 ⊢
      rw [hn1] at hn ⊢
      have HN0 := Aside0.mk hn0
      have HN1 := Aside0.mk hn1
      clear hr0 hr1 hge hok hmax hn0 hn1
      go_enter Try.func4, Try.ntmps4
      go_wp2_with (first | (go_at_call 7; refine kS.mono ?_; rintro e w1 ⟨rfl, ⟨nd, rfl⟩⟩; clear kS) | (go_at_call 9; refine (new_calls w.heap.size _ (by simp)).mono ?_; rintro e w1 ⟨rfl, hT, hb⟩; have HT := Aside0.mk hT; have HB := Aside0.mk (below_step (pw_below_drewN (Below.refl w.heap.size w) nd) hb); clear hT hb))
      go_loopg [6, 7] (n0 + 1) (fun gk p q wr => ∃ (j : Nat) (L : List S58) (v : Value), n0 - j < gk ∧ j ≤ n0 ∧ L.length ≤ j ∧ p = .int .i64 L.length ∧ q = .int .i64 j ∧ Aside0 (AlAll (fun x => x.f0 ≤ 9223372036854775807) L ∧ TimAt w.heap.size wr w.heap.size L L.length v ∧ Below w.heap.size w wr))
      case atStart => exact ⟨0, [], _, by omega, by omega, Nat.le_refl _, rfl, rfl, ⟨fun x hx => by simp at hx, HT.out, HB.out⟩⟩
      case round =>
        obtain ⟨j, L, v, hgk, hj, hLj, rfl, rfl, HH⟩ := hrel
        clear HT HB
        by_cases hlt : j < n0
        · obtain ⟨ad, x, rfl, hx, x1, x2⟩ := acts_at (Kd.C_below HR0.out HH.out.2.2) j (by have := HN0.out; omega)
          have hB := HH.out.2.2.size
          have HX := Aside0.mk (HGE.out x (List.mem_of_getElem? hx))
          clear hx
          have hTd : TimAt w.heap.size wr.drew w.heap.size L L.length v := HH.out.2.1.drewN 1
          have HTD := Aside0.mk hTd
          clear hTd
          by_cases c1 : 256 < x.f2.size ∨ x.f1 < 0
          · have kA := addBad_calls _ _ _ _ _ x.f1 x.f2 _ HTD.out (by omega) (by omega) hB c1
            clear c1
            go_upto_region 10 with (fail)
            go_cut [9] (fun ve wx => ve = .int .i64 2 ∧ Aside0 (TimIs w.heap.size w.heap.size wr.drew L L.length wx))
            case first =>
              go_region_with (go_at_call 10; refine kA.mono ?_; rintro e w2 ⟨rfl, hT⟩; have HT := Aside0.mk hT; clear hT)
              all_goals
                go_wp2_with fail
                go_meet
                case rel => exact ⟨rfl, HT⟩
            case rest =>
              obtain ⟨rfl, HT⟩ := hcut
              obtain ⟨v2, hT, hK⟩ := HT.out
              have HB := Aside0.mk (hK.below (pw_below_drewN HH.out.2.2 1) HH.out.2.2.size)
              clear hK kA HT
              have HT := Aside0.mk hT
              clear hT
              go_wp2_with (go_at_call 12; refine (num_calls _ _).mono ?_; rintro e w3 ⟨rfl, rfl⟩)
              go_roundg (n0 - j)
              case measure => omega
              case rel => exact ⟨j + 1, L, v2, by omega, by omega, by omega, rfl, rfl, ⟨HH.out.1, HT.out, HB.out⟩⟩
          · have kA := addOk_calls _ _ _ _ _ x.f1 x.f2 _ HTD.out (by omega) (by omega) hB c1 (by omega)
            clear c1
            go_upto_region 10 with (fail)
            go_cut [9] (fun ve wx => ve = .int .i64 0 ∧ Aside0 (TimIs w.heap.size w.heap.size wr.drew (alPushed L ⟨x.f1, (L.length : Int) + 1, x.f2⟩) ((L.length : Int) + 1) wx))
            case first =>
              go_region_with (go_at_call 10; refine kA.mono ?_; rintro e w2 ⟨rfl, hT⟩; have HT := Aside0.mk hT; clear hT)
              all_goals
                go_wp2_with fail
                go_meet
                case rel => exact ⟨rfl, HT⟩
            case rest =>
              obtain ⟨rfl, HT⟩ := hcut
              obtain ⟨v2, hT, hK⟩ := HT.out
              have HB := Aside0.mk (hK.below (pw_below_drewN HH.out.2.2 1) HH.out.2.2.size)
              clear hK kA HT
              have HT := Aside0.mk hT
              clear hT
              go_wp2_with (go_at_call 12; refine (num_calls _ _).mono ?_; rintro e w3 ⟨rfl, rfl⟩)
              go_roundg (n0 - j)
              case measure => omega
              case rel => exact ⟨j + 1, alPushed L ⟨x.f1, (L.length : Int) + 1, x.f2⟩, v2, by omega, by omega, by rw [alPushed_length]; omega, by rw [alPushed_length]; rfl, rfl, ⟨AlAll.perm (fun y hy => by rcases List.mem_append.mp hy with h | h; exact HH.out.1 y h; rw [List.mem_singleton.mp h]; exact HX.out) (alPushed_perm _ _), by rw [alPushed_length]; exact HT.out, HB.out⟩⟩
        · have d0 : decide ((j : Int) < (n0 : Int)) = false := decide_eq_false (by omega)
          clear HR0 HGE
          go_wp2_with fail
          have HH1 := Aside0.mk (And.intro HH.out.1 (And.intro HH.out.2.1 HH.out.2.2))
          generalize hnn : L.length = nn at *
          have hnn1 : nn ≤ 100 := by omega
          have HNN := Aside0.mk hnn
          clear hnn HH
          obtain ⟨wo, rfl⟩ : ∃ wo : World, wo = wr := ⟨_, rfl⟩
          go_loopg [10, 11] (n1 + 1) (fun gk p q wr => ∃ (t i : Nat) (L : List S58) (v : Value), n1 - i < gk ∧ i ≤ n1 ∧ t + L.length = nn ∧ p = .int .i64 t ∧ q = .int .i64 i ∧ Aside0 (AlAll (fun x => x.f0 ≤ 9223372036854775807) L ∧ TimAt w.heap.size wr w.heap.size L nn v ∧ Below w.heap.size w wr))
          case atStart => exact ⟨0, 0, L, v, by omega, by omega, by rw [HNN.out]; omega, rfl, rfl, ⟨HH1.out.1, HH1.out.2.1, HH1.out.2.2⟩⟩
          case round =>
            obtain ⟨t, i, L2, v2, hgk2, hi, htL, rfl, rfl, HH⟩ := hrel
            clear HH1 HNN
            have kD := fun now => due_calls _ _ L2 _ v2 now _ HH.out.2.1 (by omega) HH.out.2.2.size
            by_cases hlt2 : i < n1
            · obtain ⟨ad, rfl, x1⟩ := ints_at (Kd.C_below HR1.out HH.out.2.2) i (by have := HN1.out; omega)
              generalize hnow : l1.getD i 0 = now at *
              have HNOW := Aside0.mk hnow
              clear hnow
              have kD := kD now
              obtain ⟨ho1, ho2, ho3⟩ := alDue_ok now L2.length L2 (Nat.le_refl _)
              have ho3 := (ho3 _ HH.out.1).1
              generalize alDue now L2.length L2 = R at *
              obtain ⟨out, L3⟩ := R
              have HO := Aside0.mk (And.intro ho2 ho3)
              simp only at ho1
              clear ho2 ho3
              go_upto_region 18 with (go_at_call 16; refine kD.mono ?_; rintro e w2 ⟨u, rfl, hU, v3, hT, hK⟩; obtain ⟨AU, cU, rfl⟩ := own_slice hU; have HB := Aside0.mk (hK.below HH.out.2.2 HH.out.2.2.size); have HT := Aside0.mk hT; have kN := next_calls _ _ _ _ _ _ hT; have kL := len_calls _ _ _ _ _ _ hT; clear hU hT hK kD)
              have x2 : w2.cell? (ad.add i) = some (.int .i64 now) := by
                obtain ⟨ad', e, h⟩ := ints_at (Kd.C_below HR1.out HB.out) i (by have := HN1.out; omega)
                obtain rfl := Option.some.inj e
                rw [HNOW.out] at h
                exact h
              clear x1
              cases L3 with
              | nil =>
                have kN : Calls Try.prog 18 #[.pointer (some ⟨w.heap.size, 0, none⟩)] w2 fun e W' => e = .returned (.tuple #[.int .i64 0, .bool false]) ∧ w2 = W' := kN
                have kL : Calls Try.prog 20 #[.pointer (some ⟨w.heap.size, 0, none⟩)] w2 fun e W' => e = .returned (.int .i64 0) ∧ w2 = W' := kL
                simp only [List.length_nil, Nat.add_zero] at ho1
                have ho1a := Nat.le_of_eq ho1
                have ho1b := Nat.le_of_eq ho1.symm
                clear ho1
                have d1 : ((0 : Int) != (nn : Int) - ((t : Int) + (out.length : Int))) = false := by simp; omega
                have d2 : ((nn : Int) - ((t : Int) + (out.length : Int))) = 0 := by omega
                go_wp2_with (first | (go_at_call 18; refine kN.mono ?_; rintro e w3 ⟨rfl, rfl⟩) | (go_at_call 20; refine kL.mono ?_; rintro e w3 ⟨rfl, rfl⟩))
                go_roundg (n1 - i)
                case measure => omega
                case rel => exact ⟨t + out.length, i + 1, [], v3, by omega, by omega, by simp only [List.length_nil]; omega, rfl, rfl, ⟨fun x hx => by simp at hx, HT.out, HB.out⟩⟩
              | cons a L3 =>
                have kN : Calls Try.prog 18 #[.pointer (some ⟨w.heap.size, 0, none⟩)] w2 fun e W' => e = .returned (.tuple #[.int .i64 a.f0, .bool true]) ∧ w2 = W' := kN
                rw [List.length_cons] at kL
                simp only [List.length_cons] at ho1
                have ha := HO.out.1 a L3 rfl
                have d0 : decide (a.f0 ≤ now) = false := decide_eq_false (by omega)
                have d1 : (((L3.length + 1 : Nat) : Int) != (nn : Int) - ((t : Int) + (out.length : Int))) = false := by simp; omega
                have d2 : ((nn : Int) - ((t : Int) + (out.length : Int))) = ((L3.length + 1 : Nat) : Int) := by omega
                clear ha
                go_wp2_with (first | (go_at_call 18; refine kN.mono ?_; rintro e w3 ⟨rfl, rfl⟩) | (go_at_call 20; refine kL.mono ?_; rintro e w3 ⟨rfl, rfl⟩))
                go_roundg (n1 - i)
                case measure => omega
                case rel => exact ⟨t + out.length, i + 1, a :: L3, v3, by omega, by omega, by simp only [List.length_cons]; omega, rfl, rfl, ⟨HO.out.2, HT.out, HB.out⟩⟩
            · have d0 : decide ((i : Int) < (n1 : Int)) = false := decide_eq_false (by omega)
              have kD := kD 9223372036854775807
              obtain ⟨ho1, ho2, ho3⟩ := alDue_ok 9223372036854775807 L2.length L2 (Nat.le_refl _)
              have ho3 := (ho3 _ HH.out.1).1
              generalize alDue 9223372036854775807 L2.length L2 = R at *
              obtain ⟨out, L3⟩ := R
              simp only at ho1 ho2 ho3
              have he : L3 = [] := by
                cases L3 with
                | nil => rfl
                | cons a L3 =>
                  have h1 := ho2 a L3 rfl
                  have h2 : a.f0 ≤ 9223372036854775807 := ho3 a List.mem_cons_self
                  omega
              subst he
              simp only [List.length_nil, Nat.add_zero] at ho1
              have ho1a := Nat.le_of_eq ho1
              have ho1b := Nat.le_of_eq ho1.symm
              clear ho1
              clear ho2 ho3
              have d1 : ((t : Int) + (out.length : Int) == (nn : Int)) = true := by simp; omega
              go_wp2_with (first | (go_at_call 16; refine kD.mono ?_; rintro e w2 ⟨u, rfl, hU, v3, hT, hK⟩; obtain ⟨AU, cU, rfl⟩ := own_slice hU; have HB := Aside0.mk (hK.below HH.out.2.2 HH.out.2.2.size); have kL : Calls Try.prog 20 #[.pointer (some ⟨w.heap.size, 0, none⟩)] w2 fun e W' => e = .returned (.int .i64 0) ∧ w2 = W' := len_calls _ _ _ _ _ _ hT; clear hU hT hK kD) | (go_at_call 20; refine kL.mono ?_; rintro e w3 ⟨rfl, rfl⟩) | (go_at_call 8; refine (wharflaw20_live.calls true _ rfl).mono ?_; rintro e w9 ⟨rfl, hb9⟩))
              go_ret
              exact ⟨rfl, below_step HB.out hb9⟩
theorem wharflaw20_TimerOnce.callsT (k : Nat) (A0 : Option Addr) (c0 : Nat) (l0 : List S32) (A1 : Option Addr) (c1 : Nat) (l1 : List Int) (r : Bool) (w : World) (hr0 : Kd.C k32 w A0 l0.length l0) (hc0 : l0.length ≤ c0) (hr1 : Kd.C (Kd.int .i64) w A1 l1.length l1) (hc1 : l1.length ≤ c1) (_ : Aside0 (r = true)) (h : wharflaw20_TimerOnce.f k l0 l1 = some r) :
    Calls Try.prog 4 #[.slice A0 l0.length c0, .slice A1 l1.length c1] w fun e w' => e = .returned (.bool r) ∧ Below w.heap.size w w' := wharflaw20_TimerOnce.calls k A0 c0 l0 A1 c1 l1 r w hr0 hc0 hr1 hc1 h

end Go.Proofs.Ytlcnhmigbdaajaa.H
