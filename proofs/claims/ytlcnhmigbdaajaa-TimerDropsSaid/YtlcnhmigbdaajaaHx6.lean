-- written by hp.py for this claim, out of the kit's printer and texts of my own
import Derived.Test.YtlcnhmigbdaajaaHx0
import Derived.Test.YtlcnhmigbdaajaaHx4
import Derived.Test.YtlcnhmigbdaajaaHx5
import Derived.Test.YtlcnhmigbdaajaaHx7
import Derived.Test.YtlcnhmigbdaajaaHx8
import Derived.Test.YtlcnhmigbdaajaaHx20001
import Derived.Test.YtlcnhmigbdaajaaHx20005
import Derived.Test.YtlcnhmigbdaajaaHx20006
import Derived.Test.YtlcnhmigbdaajaaHx20007
import Derived.Test.YtlcnhmigbdaajaaHx20009
import Derived.Test.YtlcnhmigbdaajaaHx20010
import Derived.Test.YtlcnhmigbdaajaaHx4
import Derived.Lib.Hide
import Derived.Deep.LoopGhost
import Derived.Deep.RegionWith
import Derived.Deep.DeepCutAuto
namespace Go.Proofs.Ytlcnhmigbdaajaa.H
open Go.RowKit Go.Proofs.YtlcnhmigbdaajaaW.PrintWords Go.Proofs.YtlcnhmigbdaajaaW.PrintLast Go.Proofs.YtlcnhmigbdaajaaW.PrintMore
attribute [local go_sem] max2_int min2_int max_two min_two max_three min_three max_four min_four   -- for this text's walks alone
set_option linter.unusedVariables false
set_option linter.unusedSimpArgs false

def wharflaw20_TimerDrops.f (k : Nat) (l : List S32) (_key : ByteArray) : Option Bool := (wharflaw20_small.f k l).bind fun b => if onceOk l b = true then some true else none
/-- how many are of a key -/
def alCnt (key : ByteArray) (l : List S58) : Nat := (l.filter (fun x => x.f2 == key)).length
theorem alCnt_perm {key : ByteArray} {l l' : List S58} (h : l.Perm l') : alCnt key l = alCnt key l' := (h.filter _).length_eq
theorem alCnt_snoc (key : ByteArray) (l : List S58) (x : S58) : alCnt key (l ++ [x]) = alCnt key l + if (x.f2 == key) = true then 1 else 0 := by
  unfold alCnt
  rw [List.filter_append, List.length_append]
  congr 1
  cases h : (x.f2 == key) <;> simp [h]
theorem alCnt_keep (key : ByteArray) (l : List S58) : alCnt key l + (alKeep key l).length = l.length := by
  unfold alCnt alKeep
  induction l with
  | nil => rfl
  | cons a l ih =>
    simp only [List.filter_cons, List.length_cons]
    cases h : (a.f2 == key) <;> simp <;> omega
theorem any_cnt (key : ByteArray) (l : List S58) : l.any (fun x => x.f2 == key) = decide (0 < alCnt key l) := by
  unfold alCnt
  rw [Bool.eq_iff_iff]
  simp only [List.any_eq_true, decide_eq_true_eq, List.length_pos_iff_exists_mem, List.mem_filter]
theorem alKeep_all (key : ByteArray) (l : List S58) : AlAll (fun x => (x.f2 == key) = false) (alKeep key l) := by
  intro x hx
  unfold alKeep at hx
  have := (List.mem_filter.mp hx).2
  simpa using this
theorem alCnt_none (key : ByteArray) (l : List S58) (h : AlAll (fun x => (x.f2 == key) = false) l) : alCnt key l = 0 := by
  unfold alCnt
  rw [List.length_eq_zero_iff, List.filter_eq_nil_iff]
  intro x hx
  rw [h x hx]
  decide
theorem alDropped_length (key : ByteArray) (l : List S58) : (alDropped key l).length = (alKeep key l).length := (alDropped_perm key l).length_eq
theorem hasCnt_calls (B g : Nat) (l : List S58) (last : Int) (v : Value) (key : ByteArray) (W : World) (h : TimAt B W g l last v) (hl : l.length ≤ 1000000) (b : Bool) (hb : decide (0 < alCnt key l) = b) :
    Calls Try.prog 21 #[.pointer (some ⟨g, 0, none⟩), .string key] W fun e W' => e = .returned (.bool b) ∧ Below W.heap.size W W' := by
  have k := has_calls B g l last v key W h hl
  rw [any_cnt, hb] at k
  exact k
theorem dropCnt_calls (B g : Nat) (l : List S58) (last : Int) (v : Value) (key : ByteArray) (W : World) (h : TimAt B W g l last v) (hl : l.length ≤ 1000000) :
    Calls Try.prog 13 #[.pointer (some ⟨g, 0, none⟩), .string key] W fun e W' => e = .returned (.int .i64 (alCnt key l)) ∧ TimIs B g W (alDropped key l) last W' := by
  have k := drop_calls B g l last v key W h hl
  rw [show (l.length : Int) - (alKeep key l).length = (alCnt key l : Int) by have := alCnt_keep key l; omega] at k
  exact k
theorem acts_at2 {w : World} {ad : Addr} {xs : List S32} (h : Kd.C k32 w (some ad) xs.length xs) (i : Nat) (x : S32) (hx : xs[i]? = some x) : w.cell? ⟨(ad.add (i * 3)).block, (ad.add (i * 3)).off + 1, none⟩ = some (.int .i64 x.f1) ∧ w.cell? ⟨(ad.add (i * 3)).block, (ad.add (i * 3)).off + 2, none⟩ = some (.string x.f2) := by
  obtain ⟨ad', x', e, hx', h1, h2⟩ := acts_at h i (List.getElem?_eq_some_iff.mp hx).1
  obtain rfl := Option.some.inj e
  rw [hx] at hx'
  obtain rfl := Option.some.inj hx'
  exact ⟨h1, h2⟩
theorem dropped_facts (key : ByteArray) (L : List S58) (p : S58 → Prop) (h : AlAll p L) :
    (alDropped key L).length + alCnt key L = L.length ∧ AlAll (fun x => (x.f2 == key) = false) (alDropped key L) ∧ AlAll p (alDropped key L) ∧ alCnt key (alDropped key L) = 0 := by
  have h1 := alCnt_keep key L
  have h2 := alDropped_length key L
  have h3 : AlAll (fun x => (x.f2 == key) = false) (alDropped key L) := (alKeep_all key L).perm (alDropped_perm key L)
  exact ⟨by omega, h3, AlAll.perm (fun x hx => h x ((List.mem_filter.mp hx).1)) (alDropped_perm key L), alCnt_none key _ h3⟩
theorem StrRow.at {b n c : Nat} {A : Option Addr} {W : World} {out : List ByteArray} (h : StrRow b W (.slice A n c) out) (k : Nat) (s : ByteArray) (hs : out[k]? = some s) : ∃ r, A = some ⟨r, 0, none⟩ ∧ W.cell? ⟨r, k, none⟩ = some (.string s) := by
  have hk := (List.getElem?_eq_some_iff.mp hs).1
  have hp : ∃ r, A = some ⟨r, 0, none⟩ := by
    rcases h.2 with ⟨h2, h3⟩ | ⟨g', cap, cur, he, _⟩
    · omega
    · injection he with e1 e2 e3
      exact ⟨g', e1⟩
  obtain ⟨r, rfl⟩ := hp
  refine ⟨r, rfl, ?_⟩
  have hc := h.cells (g := r) rfl k (.string s) (by rw [List.getElem?_map, hs]; rfl)
  rw [add_plain] at hc
  exact hc
/-- a Due at the first one's time tells at least that one -/
theorem alDue_first (a : S58) (t : List S58) : 0 < (alDue a.f0 (a :: t).length (a :: t)).1.length := by
  rw [List.length_cons, alDue, if_neg (Int.lt_irrefl _)]
  simp
set_option maxRecDepth 100000 in
set_option maxHeartbeats 4000000 in
theorem wharflaw20_TimerDrops.calls (k : Nat) (A0 : Option Addr) (c0 : Nat) (l0 : List S32) (key : ByteArray) (r : Bool) (w : World) (hr0 : Kd.C k32 w A0 l0.length l0) (hc0 : l0.length ≤ c0) (h : wharflaw20_TimerDrops.f k l0 key = some r) :
    Calls Try.prog 6 #[.slice A0 l0.length c0, .string key] w fun e w' => e = .returned (.bool r) ∧ Below w.heap.size w w' := by
  obtain ⟨b, hb, h⟩ := Option.bind_eq_some_iff.mp h
  split at h
  case isFalse => cases h
  rename_i hok
  obtain rfl := Option.some.inj h
  have kS := wharflaw20_small.calls k A0 c0 l0 b w hr0 hc0 hb
  clear h hb hc0
  cases b with
  | false =>
    clear hr0 hok
    go_enter Try.func6, Try.ntmps6
    go_wp2_with (first | (go_at_call 7; refine kS.mono ?_; rintro e w1 ⟨rfl, ⟨nd, rfl⟩⟩) | (go_at_call 8; refine (wharflaw20_live.calls true _ rfl).mono ?_; rintro e w9 ⟨rfl, hb9⟩))
    go_ret
    exact ⟨rfl, below_step (pw_below_drewN (Below.refl _ _) nd) hb9⟩
  | true =>
    by_cases hn : 256 < key.size
    · clear hr0 hok
      go_enter Try.func6, Try.ntmps6
      go_wp2_with (first | (go_at_call 7; refine kS.mono ?_; rintro e w1 ⟨rfl, ⟨nd, rfl⟩⟩) | (go_at_call 8; refine (wharflaw20_live.calls true _ rfl).mono ?_; rintro e w9 ⟨rfl, hb9⟩))
      go_ret
      exact ⟨rfl, below_step (pw_below_drewN (Below.refl _ _) nd) hb9⟩
    · have hl0 : l0.length ≤ 100 := by
        unfold onceOk at hok
        simp at hok
        exact hok.1
      have HR0 := Aside0.mk hr0
      obtain ⟨n0, hn0⟩ : ∃ n0, l0.length = n0 := ⟨_, rfl⟩
      rw [hn0] at kS hl0 ⊢
      have HN0 := Aside0.mk hn0
      clear hr0 hok hn0
      go_enter Try.func6, Try.ntmps6
      go_wp2_with (first | (go_at_call 7; refine kS.mono ?_; rintro e w1 ⟨rfl, ⟨nd, rfl⟩⟩; clear kS) | (go_at_call 9; refine (new_calls w.heap.size _ (by simp)).mono ?_; rintro e w1 ⟨rfl, hT, hb⟩; have HT := Aside0.mk hT; have HB := Aside0.mk (below_step (pw_below_drewN (Below.refl w.heap.size w) nd) hb); clear hT hb))
      go_loopg [6, 7, 8] (n0 + 1) (fun gk p d q wr => ∃ (j : Nat) (L : List S58) (v : Value), n0 - j < gk ∧ j ≤ n0 ∧ L.length ≤ j ∧ p = .int .i64 L.length ∧ d = .int .i64 (alCnt key L) ∧ q = .int .i64 j ∧ Aside0 (AlAll (fun x => 0 ≤ x.f0) L ∧ TimAt w.heap.size wr w.heap.size L L.length v ∧ Below w.heap.size w wr))
      case atStart => exact ⟨0, [], _, by omega, by omega, Nat.le_refl _, rfl, rfl, rfl, ⟨fun x hx => by simp at hx, HT.out, HB.out⟩⟩
      case round =>
        obtain ⟨j, L, v, hgk, hj, hLj, rfl, rfl, rfl, HH⟩ := hrel
        clear HT HB
        have hcl : alCnt key L ≤ L.length := by have := alCnt_keep key L; omega
        by_cases hlt : j < n0
        · obtain ⟨ad, x, rfl, hx, x1, x2⟩ := acts_at (Kd.C_below HR0.out HH.out.2.2) j (by have := HN0.out; omega)
          have hB := HH.out.2.2.size
          have HX := Aside0.mk hx
          clear hx
          have hTd : TimAt w.heap.size wr.drew w.heap.size L L.length v := HH.out.2.1.drewN 1
          have HTD := Aside0.mk hTd
          clear hTd
          by_cases c1 : 256 < x.f2.size ∨ x.f1 < 0
          · have kA := addBad_calls _ _ _ _ _ x.f1 x.f2 _ HTD.out (by omega) (by omega) hB c1
            clear c1
            go_upto_region 10 with (fail)
            go_cut [10] (fun ve wx => ve = .int .i64 2 ∧ Aside0 (TimIs w.heap.size w.heap.size wr.drew L L.length wx))
            case first =>
              go_region_with (go_at_call 10; refine kA.mono ?_; rintro e w2 ⟨rfl, hT⟩; have HT := Aside0.mk hT; clear hT)
              all_goals
                go_wp2_with fail
                go_meet
                case rel => exact ⟨rfl, HT⟩
            case rest =>
              obtain ⟨rfl, HT⟩ := hcut
              obtain ⟨v2, hT, hK⟩ := HT.out
              have HB := Aside0.mk (hK.below (pw_below_drewN HH.out.2.2 1) HH.out.2.2.size)
              clear hK kA HT
              have HT := Aside0.mk hT
              clear hT
              go_wp2_with (go_at_call 12; refine (num_calls _ _).mono ?_; rintro e w3 ⟨rfl, rfl⟩)
              go_roundg (n0 - j)
              case measure => omega
              case rel => exact ⟨j + 1, L, v2, by omega, by omega, by omega, rfl, rfl, rfl, ⟨HH.out.1, HT.out, HB.out⟩⟩
          · have kA := addOk_calls _ _ _ _ _ x.f1 x.f2 _ HTD.out (by omega) (by omega) hB c1 (by omega)
            have hx1 : 0 ≤ x.f1 := by omega
            clear c1
            go_upto_region 10 with (fail)
            go_cut [10] (fun ve wx => ve = .int .i64 0 ∧ Aside0 (TimIs w.heap.size w.heap.size wr.drew (alPushed L ⟨x.f1, (L.length : Int) + 1, x.f2⟩) ((L.length : Int) + 1) wx))
            case first =>
              go_region_with (go_at_call 10; refine kA.mono ?_; rintro e w2 ⟨rfl, hT⟩; have HT := Aside0.mk hT; clear hT)
              all_goals
                go_wp2_with fail
                go_meet
                case rel => exact ⟨rfl, HT⟩
            case rest =>
              obtain ⟨rfl, HT⟩ := hcut
              obtain ⟨v2, hT, hK⟩ := HT.out
              have HB := Aside0.mk (hK.below (pw_below_drewN HH.out.2.2 1) HH.out.2.2.size)
              clear hK kA HT
              have HT := Aside0.mk hT
              have HA := Aside0.mk (show AlAll (fun x => 0 ≤ x.f0) (alPushed L ⟨x.f1, (L.length : Int) + 1, x.f2⟩) from AlAll.perm (fun y hy => by rcases List.mem_append.mp hy with h | h; exact HH.out.1 y h; rw [List.mem_singleton.mp h]; exact hx1) (alPushed_perm _ _))
              have HCN := Aside0.mk ((alCnt_perm (key := key) (alPushed_perm L ⟨x.f1, (L.length : Int) + 1, x.f2⟩)).trans (alCnt_snoc key L _))
              obtain ⟨y1, y2⟩ := acts_at2 (Kd.C_below HR0.out HB.out) j x HX.out
              clear hT x1 x2 hx1
              cases hb : (x.f2 == key) with
              | true =>
                have hcn : alCnt key (alPushed L ⟨x.f1, (L.length : Int) + 1, x.f2⟩) = alCnt key L + 1 := by have := HCN.out; simp only [hb, if_true] at this; exact this
                rw [beq_toListBytes] at hb
                have HCN := Aside0.mk hcn
                clear hcn
                go_wp2_with (go_at_call 12; refine (num_calls _ _).mono ?_; rintro e w3 ⟨rfl, rfl⟩)
                go_roundg (n0 - j)
                case measure => omega
                case rel => exact ⟨j + 1, alPushed L ⟨x.f1, (L.length : Int) + 1, x.f2⟩, v2, by omega, by omega, by rw [alPushed_length]; omega, by rw [alPushed_length]; rfl, by rw [HCN.out]; rfl, rfl, ⟨HA.out, by rw [alPushed_length]; exact HT.out, HB.out⟩⟩
              | false =>
                have hcn : alCnt key (alPushed L ⟨x.f1, (L.length : Int) + 1, x.f2⟩) = alCnt key L := by have := HCN.out; simp only [hb, Bool.false_eq_true, if_false] at this; exact this
                rw [beq_toListBytes] at hb
                have HCN := Aside0.mk hcn
                clear hcn
                go_wp2_with (go_at_call 12; refine (num_calls _ _).mono ?_; rintro e w3 ⟨rfl, rfl⟩)
                go_roundg (n0 - j)
                case measure => omega
                case rel => exact ⟨j + 1, alPushed L ⟨x.f1, (L.length : Int) + 1, x.f2⟩, v2, by omega, by omega, by rw [alPushed_length]; omega, by rw [alPushed_length]; rfl, by rw [HCN.out], rfl, ⟨HA.out, by rw [alPushed_length]; exact HT.out, HB.out⟩⟩
        · have d0 : decide ((j : Int) < (n0 : Int)) = false := decide_eq_false (by omega)
          clear HR0
          go_upto_region 15 with (fail)
          obtain ⟨f1, f2, f3, f4⟩ := dropped_facts key L (fun x => 0 ≤ x.f0) HH.out.1
          obtain ⟨g1, g2, g3, _⟩ := dropped_facts key (alDropped key L) (fun x => 0 ≤ x.f0) f3
          have HF := Aside0.mk (And.intro f2 (And.intro f3 (And.intro f4 (And.intro g2 g3))))
          have hs1 : (alDropped key L).length + alCnt key L = L.length := f1
          have hs2 : (alDropped key (alDropped key L)).length = (alDropped key L).length := by rw [f4] at g1; exact g1
          have HS2 := Aside0.mk hs2
          clear f1 f2 f3 f4 g1 g2 g3 hs2
          have hD1 : ∀ v W, TimAt w.heap.size W w.heap.size L L.length v → Calls Try.prog 13 #[.pointer (some ⟨w.heap.size, 0, none⟩), .string key] W fun e W' => e = .returned (.int .i64 (alCnt key L)) ∧ TimIs w.heap.size w.heap.size W (alDropped key L) L.length W' := fun v W h => dropCnt_calls _ _ _ _ v key W h (by omega)
          have hH2 : ∀ v W, TimAt w.heap.size W w.heap.size (alDropped key L) L.length v → Calls Try.prog 21 #[.pointer (some ⟨w.heap.size, 0, none⟩), .string key] W fun e W' => e = .returned (.bool false) ∧ Below W.heap.size W W' := fun v W h => hasCnt_calls _ _ _ _ v key W h (by omega) false (by rw [HF.out.2.2.1]; rfl)
          have hD2 : ∀ v W, TimAt w.heap.size W w.heap.size (alDropped key L) L.length v → Calls Try.prog 13 #[.pointer (some ⟨w.heap.size, 0, none⟩), .string key] W fun e W' => e = .returned (.int .i64 0) ∧ TimIs w.heap.size w.heap.size W (alDropped key (alDropped key L)) L.length W' := fun v W h => by
            have k := dropCnt_calls _ _ _ _ v key W h (by omega)
            rw [HF.out.2.2.1] at k
            exact k
          have hL2 : ∀ v W, TimAt w.heap.size W w.heap.size (alDropped key (alDropped key L)) L.length v → Calls Try.prog 20 #[.pointer (some ⟨w.heap.size, 0, none⟩)] W fun e W' => e = .returned (.int .i64 (alDropped key L).length) ∧ W = W' := fun v W h => by
            have k := len_calls _ _ _ _ v W h
            rw [HS2.out] at k
            exact k
          have hH1 : ∀ b, decide (0 < alCnt key L) = b → Calls Try.prog 21 #[.pointer (some ⟨w.heap.size, 0, none⟩), .string key] wr fun e W' => e = .returned (.bool b) ∧ Below wr.heap.size wr W' := fun b hb => hasCnt_calls _ _ _ _ v key wr HH.out.2.1 (by omega) b hb
          have HC := Aside0.mk (And.intro hD1 (And.intro hH2 (And.intro hD2 hL2)))
          have HF2 := Aside0.mk (And.intro HF.out.2.2.2.1 HF.out.2.2.2.2)
          clear hD1 hH2 hD2 hL2 HF
          generalize hL2 : alDropped key (alDropped key L) = L2 at *
          have HL2 := HS2
          clear HS2 hL2
          generalize hL1 : alDropped key L = L1 at *
          clear hL1
          obtain ⟨n1, hn1⟩ : ∃ n1, L1.length = n1 := ⟨_, rfl⟩
          have HN1 := Aside0.mk hn1
          rw [hn1] at hs1
          clear hn1
          generalize hnl : L.length = nl at *
          have HNL := Aside0.mk hnl
          clear hnl
          generalize alCnt key L = cnt at *
          have hs1a := Nat.le_of_eq hs1
          have hs1b := Nat.le_of_eq hs1.symm
          clear hs1
          go_cut [95] (fun ve wx => ve = .bool false ∧ Aside0 (∃ v2, TimAt w.heap.size wx w.heap.size L2 nl v2 ∧ Below w.heap.size w wx))
          case first =>
            have d3 : ((n1 : Int) != (nl : Int) - (cnt : Int)) = false := by simp; omega
            have d4 : (nl : Int) - (cnt : Int) = (n1 : Int) := by omega
            have hL3 : ∀ v W, TimAt w.heap.size W w.heap.size L2 nl v → Calls Try.prog 20 #[.pointer (some ⟨w.heap.size, 0, none⟩)] W fun e W' => e = .returned (.int .i64 n1) ∧ W = W' := fun v W h => by
              have k := HC.out.2.2.2 v W h
              rw [HN1.out] at k
              exact k
            have HL3 := Aside0.mk hL3
            clear hL3
            by_cases hc : 0 < cnt
            all_goals
              first | (have kH1 := hH1 true (decide_eq_true hc)) | (have kH1 := hH1 false (decide_eq_false hc))
              have d5 : (cnt : Int) - (cnt : Int) = 0 := by omega
              clear hH1
              go_wp2_with (first
                | (go_at_call 21; (with_reducible refine kH1.mono ?_); rintro e w3 ⟨rfl, hb3⟩; have HT := Aside0.mk (HH.out.2.1.below hb3); have HB := Aside0.mk (below_step HH.out.2.2 hb3); have kD1 := HC.out.1 _ _ HT.out; clear kH1 hb3)
                | (go_at_call 13; (with_reducible refine kD1.mono ?_); rintro e w4 ⟨rfl, v4, hT, hK⟩; have HB4 := Aside0.mk (hK.below HB.out HB.out.size); have HT4 := Aside0.mk hT; have kH2 := HC.out.2.1 _ _ hT; clear kD1 hT hK HT HB)
                | (go_at_call 21; (with_reducible refine kH2.mono ?_); rintro e w5 ⟨rfl, hb5⟩; have HT5 := Aside0.mk (HT4.out.below hb5); have HB5 := Aside0.mk (below_step HB4.out hb5); have kD2 := HC.out.2.2.1 _ _ HT5.out; clear kH2 hb5 HT4 HB4)
                | (go_at_call 13; (with_reducible refine kD2.mono ?_); rintro e w6 ⟨rfl, v6, hT, hK⟩; have HB6 := Aside0.mk (hK.below HB5.out HB5.out.size); have HT6 := Aside0.mk hT; have kL := HL3.out _ _ hT; clear kD2 hT hK HT5 HB5)
                | (go_at_call 20; (with_reducible refine kL.mono ?_); rintro e w7 ⟨rfl, rfl⟩))
              go_meet
              case rel => exact ⟨rfl, ⟨_, HT6.out, HB6.out⟩⟩
          case rest =>
            obtain ⟨rfl, HE⟩ := hcut
            obtain ⟨v2, hT, hB⟩ := HE.out
            have HT := Aside0.mk hT
            have HB := Aside0.mk hB
            clear hT hB HE HC hH1 HH
            go_wp2_with fail
            have HLN := Aside0.mk (show L2.length ≤ nl by rw [HL2.out, HN1.out]; omega)
            clear HL2 HN1 HNL HN0 hs1a hs1b
            go_loopg [11, 12] (nl + 1) (fun gk p q wr => ∃ (i : Nat) (lst : Int) (L : List S58) (v : Value), nl - i < gk ∧ i ≤ nl ∧ L.length + i ≤ nl ∧ p = .int .i64 lst ∧ q = .int .i64 i ∧ Aside0 ((∀ a t, L = a :: t → lst ≤ a.f0) ∧ AlAll (fun x => (x.f2 == key) = false) L ∧ TimAt w.heap.size wr w.heap.size L nl v ∧ Below w.heap.size w wr))
            case atStart => exact ⟨0, 0, L2, v2, by omega, Nat.zero_le _, HLN.out, rfl, rfl, ⟨fun a t e => HF2.out.2 a (by rw [e]; exact List.mem_cons_self), HF2.out.1, HT.out, HB.out⟩⟩
            case round =>
              obtain ⟨i, lst, L3, v3, hgk3, hi, hLi, rfl, rfl, HH⟩ := hrel
              clear HT HB HF2 HLN
              cases L3 with
              | nil =>
                have kN : Calls Try.prog 18 #[.pointer (some ⟨w.heap.size, 0, none⟩)] wr fun e W' => e = .returned (.tuple #[.int .i64 0, .bool false]) ∧ wr = W' := next_calls _ _ _ _ _ _ HH.out.2.2.1
                have kL : Calls Try.prog 20 #[.pointer (some ⟨w.heap.size, 0, none⟩)] wr fun e W' => e = .returned (.int .i64 0) ∧ wr = W' := len_calls _ _ _ _ _ _ HH.out.2.2.1
                go_wp2_with (first | (go_at_call 18; refine kN.mono ?_; rintro e w3 ⟨rfl, rfl⟩) | (go_at_call 20; refine kL.mono ?_; rintro e w3 ⟨rfl, rfl⟩) | (go_at_call 8; refine (wharflaw20_live.calls true _ rfl).mono ?_; rintro e w9 ⟨rfl, hb9⟩))
                go_ret
                exact ⟨rfl, below_step HH.out.2.2.2 hb9⟩
              | cons a t =>
                have kN : Calls Try.prog 18 #[.pointer (some ⟨w.heap.size, 0, none⟩)] wr fun e W' => e = .returned (.tuple #[.int .i64 a.f0, .bool true]) ∧ wr = W' := next_calls _ _ _ _ _ _ HH.out.2.2.1
                simp only [List.length_cons] at hLi
                have kD := due_calls _ _ (a :: t) _ v3 a.f0 _ HH.out.2.2.1 (by simp only [List.length_cons]; omega) HH.out.2.2.2.size
                have d1 : decide (a.f0 < lst) = false := decide_eq_false (by have := HH.out.1 a t rfl; omega)
                have ho0 := alDue_first a t
                obtain ⟨ho1, ho2, ho3⟩ := alDue_ok a.f0 (a :: t).length (a :: t) (Nat.le_refl _)
                obtain ⟨ho3, ho4⟩ := ho3 _ HH.out.2.1
                generalize alDue a.f0 (a :: t).length (a :: t) = R at *
                obtain ⟨out, L4⟩ := R
                simp only [List.length_cons] at ho0 ho1 ho2 ho3 ho4
                have ho1a : L4.length ≤ t.length := by omega
                have HO := Aside0.mk (And.intro ho2 (And.intro ho3 ho4))
                obtain ⟨m, hm⟩ : ∃ m, out.length = m := ⟨_, rfl⟩
                rw [hm] at ho0
                have HM := Aside0.mk hm
                have d2 : ((m : Int) == 0) = false := by simp; omega
                have hma : m ≤ 1000 := by omega
                clear ho1 ho2 ho3 ho4 hm
                go_wp2_with (first | (go_at_call 18; refine kN.mono ?_; rintro e w3 ⟨rfl, rfl⟩; clear kN) | (go_at_call 16; refine kD.mono ?_; rintro e w4 ⟨u, rfl, hU, v4, hT, hK⟩; obtain ⟨AU, cU, rfl⟩ := own_slice hU; rw [HM.out]; have HU := Aside0.mk hU; have HB := Aside0.mk (hK.below HH.out.2.2.2 HH.out.2.2.2.size); have HT := Aside0.mk hT; clear hU hT hK kD))
                obtain ⟨wo, rfl⟩ : ∃ wo : World, wo = w4 := ⟨_, rfl⟩
                go_loopg [16] (m + 1) (fun gk q wx => ∃ k : Nat, m - k < gk ∧ k ≤ m ∧ q = .int .i64 k ∧ wx = wo)
                case atStart => exact ⟨0, by omega, Nat.zero_le _, rfl, rfl⟩
                case round =>
                  obtain ⟨kk, hgk4, hkk, rfl, rfl⟩ := hrel
                  by_cases hlt4 : kk < m
                  · obtain ⟨str, hs⟩ : ∃ str, out[kk]? = some str := ⟨_, List.getElem?_eq_getElem (by rw [HM.out]; exact hlt4)⟩
                    obtain ⟨rr, rfl, x1⟩ := HU.out.at kk str hs
                    have hne : (str.toList == key.toList) = false := by
                      obtain ⟨x, hx1, hx2, _⟩ := HO.out.2.2 str (List.mem_of_getElem? hs)
                      rw [← beq_toListBytes, ← hx2]
                      exact hx1
                    clear hs
                    go_wp2_with fail
                    go_roundg (m - kk)
                    case measure => omega
                    case rel => exact ⟨kk + 1, by omega, by omega, rfl, rfl⟩
                  · have d3 : decide ((kk : Int) < (m : Int)) = false := decide_eq_false (by omega)
                    go_wp2_with fail
                    go_roundg (nl - i)
                    case measure => omega
                    case rel => exact ⟨i + 1, a.f0, L4, v4, by omega, by omega, by omega, rfl, rfl, ⟨fun b t e => Int.le_of_lt (HO.out.1 b t e), HO.out.2.1, HT.out, HB.out⟩⟩
theorem wharflaw20_TimerDrops.callsT (k : Nat) (A0 : Option Addr) (c0 : Nat) (l0 : List S32) (key : ByteArray) (r : Bool) (w : World) (hr0 : Kd.C k32 w A0 l0.length l0) (hc0 : l0.length ≤ c0) (_ : Aside0 (r = true)) (h : wharflaw20_TimerDrops.f k l0 key = some r) :
    Calls Try.prog 6 #[.slice A0 l0.length c0, .string key] w fun e w' => e = .returned (.bool r) ∧ Below w.heap.size w w' := wharflaw20_TimerDrops.calls k A0 c0 l0 key r w hr0 hc0 h

end Go.Proofs.Ytlcnhmigbdaajaa.H
