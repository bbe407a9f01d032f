-- written by hp.py for this claim, out of the kit's printer and texts of my own
import Derived.Test.YtepdfpclicdpfaaHx0
import Derived.Test.YtepdfpclicdpfaaHx21
import Derived.Test.YtepdfpclicdpfaaHx20001
import Derived.Test.YtepdfpclicdpfaaHx20003
import Derived.Test.YtepdfpclicdpfaaHx21
import Derived.Lib.Hide
import Derived.Deep.LoopGhost
import Derived.Deep.DeepCutAuto
namespace Go.Proofs.Ytepdfpclicdpfaa.H
open Go.RowKit Go.Proofs.YtepdfpclicdpfaaW.PrintWords Go.Proofs.YtepdfpclicdpfaaW.PrintLast Go.Proofs.YtepdfpclicdpfaaW.PrintMore
attribute [local go_sem] max2_int min2_int max_two min_two max_three min_three max_four min_four   -- for this text's walks alone
set_option linter.unusedVariables false
set_option linter.unusedSimpArgs false

/-- no part of it is too large for a machine -/
def eOk : Nat → S25 → Prop
  | 0, _ => True
  | k + 1, e => (e.f0.size ≤ 100000000 ∧ e.f1.size ≤ 100000000 ∧ e.f3.size ≤ 100000000 ∧ e.f2.length ≤ 100000000 ∧ e.f4.length ≤ 100000000) ∧ (∀ x ∈ e.f2, x.f0.size ≤ 100000000 ∧ x.f1.size ≤ 100000000) ∧ ∀ x ∈ e.f4, eOk k x
def attrEq (a b : S51) : Bool := (a.f0.toList == b.f0.toList) && (a.f1.toList == b.f1.toList)
def listEq {α : Type} (p : α → α → Bool) : List α → List α → Bool
  | [], [] => true
  | a :: l, b :: m => p a b && listEq p l m
  | _, _ => false
def sameF : Nat → S25 → S25 → Bool
  | 0, _, _ => false
  | k + 1, a, b => (a.f0.toList == b.f0.toList) && (a.f1.toList == b.f1.toList) && (a.f3.toList == b.f3.toList) && listEq attrEq a.f2 b.f2 && listEq (sameF k) a.f4 b.f4
theorem listEq_length {α : Type} (p : α → α → Bool) : ∀ (l m : List α), l.length ≠ m.length → listEq p l m = false
  | [], [], h => absurd rfl h
  | _ :: _, [], _ => rfl
  | [], _ :: _, _ => rfl
  | a :: l, b :: m, h => by
    simp only [listEq, listEq_length p l m (by simpa using h), Bool.and_false]
theorem api_Attr_l0 (x0 x1 : List S51) (hb : x0.length ≤ 1000000000) (he : x0.length = x1.length) : ∀ (k j : Nat), j ≤ x0.length → x0.length - j < k → api_Attr.l0 k x0 x1 (x0.length : Int) (j : Int) = some (listEq attrEq (x0.drop j) (x1.drop j)) := by
  intro k
  induction k with
  | zero => intro j _ h; omega
  | succ k ih =>
    intro j hj hk
    unfold api_Attr.l0
    by_cases hlt : j < x0.length
    · have h1 : j < x1.length := by omega
      rw [if_pos (by omega), if_pos (by omega), if_pos (by omega), if_pos (by omega)]
      rw [List.drop_eq_getElem_cons hlt, List.drop_eq_getElem_cons h1]
      have r0 : rd_T51 x0 (j : Int) = x0[j] := by simp [rd_T51, hlt]
      have r1 : rd_T51 x1 (j : Int) = x1[j] := by simp [rd_T51, h1]
      rw [r0, r1]
      have hw : wrap64 ((j : Int) + 1) = ((j + 1 : Nat) : Int) := by
        unfold wrap64
        omega
      rw [hw, ih (j + 1) (by omega) (by omega)]
      simp only [listEq, attrEq]
      cases (x0[j].f0.toList == x1[j].f0.toList) <;> cases (x0[j].f1.toList == x1[j].f1.toList) <;> simp
    · rw [if_neg (by omega), List.drop_eq_nil_of_le (by omega), List.drop_eq_nil_of_le (by omega)]
      rfl
theorem api_Attr_f (x0 x1 : List S51) (hb : x0.length ≤ 1000000000) : api_Attr.f (x0.length + 1) x0 x1 = some (listEq attrEq x0 x1) := by
  unfold api_Attr.f
  by_cases he : x0.length = x1.length
  · rw [if_pos (by omega)]
    have := api_Attr_l0 x0 x1 hb he (x0.length + 1) 0 (by omega) (by omega)
    simpa using this
  · rw [if_neg (by omega), listEq_length _ _ _ he]
theorem listEq_at {α : Type} (p : α → α → Bool) {l m : List α} (j : Nat) (h0 : j < l.length) (h1 : j < m.length) : listEq p (l.drop j) (m.drop j) = (p l[j] m[j] && listEq p (l.drop (j + 1)) (m.drop (j + 1))) := by
  rw [List.drop_eq_getElem_cons h0, List.drop_eq_getElem_cons h1]
  rfl
set_option maxRecDepth 100000 in
set_option maxHeartbeats 2000000 in
theorem eqf_calls (k : Nat) (hS : ∀ (a b : S25) (A2 A4 B2 B4 : Option Addr) (c2 c4 d2 d4 : Nat) (W : World), dOk k a → a.f2.length ≤ c2 → Kd.C k51 W A2 a.f2.length a.f2 → a.f4.length ≤ c4 → Kd.C k25 W A4 a.f4.length a.f4 →
      b.f2.length ≤ d2 → Kd.C k51 W B2 b.f2.length b.f2 → b.f4.length ≤ d4 → Kd.C k25 W B4 b.f4.length b.f4 → eOk k a →
      Calls Try.prog 10 #[.agg #[.string a.f0, .string a.f1, .slice A2 a.f2.length c2, .string a.f3, .slice A4 a.f4.length c4], .agg #[.string b.f0, .string b.f1, .slice B2 b.f2.length d2, .string b.f3, .slice B4 b.f4.length d4]] W
        fun r W' => r = .returned (.bool (sameF k a b)) ∧ Below W.heap.size W W')
    (l m : List S25) (A B : Option Addr) (c d : Nat) (w : World) (hl : Kd.C k25 w A l.length l) (hm : Kd.C k25 w B m.length m) (hd : ∀ x ∈ l, dOk k x) (hn : l.length ≤ 100000000) (hw : ∀ x ∈ l, eOk k x) :
    Calls Try.prog 22 #[.slice A l.length c, .slice B m.length d, .func (.func 10) #[] #[]] w fun e w' => e = .returned (.bool (listEq (sameF k) l m)) ∧ Below w.heap.size w w' := by
  have HL := Aside0.mk hl
  have HM := Aside0.mk hm
  have HS := Aside0.mk hS
  have HD := Aside0.mk hd
  have HW := Aside0.mk hw
  have hne := listEq_length (sameF k) l m
  have hat := fun j h0 h1 => listEq_at (sameF k) (l := l) (m := m) j h0 h1
  have hfull : listEq (sameF k) l m = listEq (sameF k) (l.drop 0) (m.drop 0) := rfl
  obtain ⟨q, hq⟩ : ∃ q, sameF k = q := ⟨_, rfl⟩
  have HQ := Aside0.mk hq
  rw [hq] at hne hat hfull ⊢
  have HNE := Aside0.mk hne
  have HAT := Aside0.mk hat
  have HFU := Aside0.mk hfull
  obtain ⟨n, hnn⟩ : ∃ n, l.length = n := ⟨_, rfl⟩
  obtain ⟨mm, hmm⟩ : ∃ n, m.length = n := ⟨_, rfl⟩
  have HN := Aside0.mk hnn
  have HMM := Aside0.mk hmm
  rw [hnn] at hn ⊢
  rw [hmm]
  clear hl hm hS hd hw hne hat hfull hq hnn hmm
  go_enter Try.func22, Try.ntmps22
  by_cases he : n = mm
  · subst he
    have hne0 : ((n : Int) != (n : Int)) = false := by simp
    go_wp2_with (fail)
    go_loopg [17] (n + 1) (fun gk i wr => ∃ j : Nat, n - j < gk ∧ j ≤ n ∧ i = .int .i64 j ∧ Aside0 (listEq q l m = listEq q (l.drop j) (m.drop j) ∧ Below w.heap.size w wr))
    case atStart => exact ⟨0, by omega, Nat.zero_le _, rfl, ⟨HFU.out, Below.refl _ _⟩⟩
    case round =>
      obtain ⟨j, hgk, hj, rfl, HH⟩ := hrel
      by_cases hlt : j < n
      · have hd0 : decide ((j : Int) < (n : Int)) = true := decide_eq_true (by omega)
        have hjl : j < l.length := by rw [HN.out]; exact hlt
        have hjm : j < m.length := by rw [HMM.out]; exact hlt
        obtain ⟨ad, P2, e2, P4, e4, eA, hx0, hx1, hx2, hx3, hx4, hl2, hg2, hl4, hg4⟩ := at_T25 HL.out (j : Int) (by omega) (by omega)
        obtain ⟨bd, R2, g2, R4, g4, eB, hy0, hy1, hy2, hy3, hy4, hm2, hh2, hm4, hh4⟩ := at_T25 HM.out (j : Int) (by omega) (by omega)
        have hxe : rd_T25 l (j : Int) = l[j] := by simp [rd_T25, hjl]
        have hye : rd_T25 m (j : Int) = m[j] := by simp [rd_T25, hjm]
        obtain ⟨x, hx⟩ : ∃ x, l[j] = x := ⟨_, rfl⟩
        obtain ⟨y, hy⟩ : ∃ y, m[j] = y := ⟨_, rfl⟩
        have hxm : x ∈ l := by rw [← hx]; exact List.getElem_mem hjl
        rw [hxe, hx] at hl2 hg2 hl4 hg4
        rw [hye, hy] at hm2 hh2 hm4 hh4
        rw [hxe, hx, Int.toNat_natCast] at hx0 hx1 hx2 hx3 hx4
        rw [hye, hy, Int.toNat_natCast] at hy0 hy1 hy2 hy3 hy4
        cases eA
        cases eB
        replace hx0 := (HH.out.2.cell (World.block_lt_of_cell? w _ hx0)).trans hx0
        replace hx1 := (HH.out.2.cell (World.block_lt_of_cell? w _ hx1)).trans hx1
        replace hx2 := (HH.out.2.cell (World.block_lt_of_cell? w _ hx2)).trans hx2
        replace hx3 := (HH.out.2.cell (World.block_lt_of_cell? w _ hx3)).trans hx3
        replace hx4 := (HH.out.2.cell (World.block_lt_of_cell? w _ hx4)).trans hx4
        have HY0 := Aside0.mk ((HH.out.2.cell (World.block_lt_of_cell? w _ hy0)).trans hy0)
        have HY1 := Aside0.mk ((HH.out.2.cell (World.block_lt_of_cell? w _ hy1)).trans hy1)
        have HY2 := Aside0.mk ((HH.out.2.cell (World.block_lt_of_cell? w _ hy2)).trans hy2)
        have HY3 := Aside0.mk ((HH.out.2.cell (World.block_lt_of_cell? w _ hy3)).trans hy3)
        have HY4 := Aside0.mk ((HH.out.2.cell (World.block_lt_of_cell? w _ hy4)).trans hy4)
        have hcall := fun W (hb : Below w.heap.size w W) => HS.out x y P2 P4 R2 R4 e2 e4 g2 g4 W (HD.out x hxm) hl2 (Kd.C_below hg2 hb) hl4 (Kd.C_below hg4 hb) hm2 (Kd.C_below hh2 hb) hm4 (Kd.C_below hh4 hb) (HW.out x hxm)
        rw [HQ.out] at hcall
        have hst := HAT.out j hjl hjm
        rw [hx, hy] at hst
        have HST := Aside0.mk hst
        clear hst hl2 hg2 hl4 hg4 hm2 hh2 hm4 hh4 hxe hye hx hy hxm hy0 hy1 hy2 hy3 hy4
        obtain ⟨a2, ha2⟩ : ∃ m, x.f2.length = m := ⟨_, rfl⟩
        obtain ⟨a4, ha4⟩ : ∃ m, x.f4.length = m := ⟨_, rfl⟩
        obtain ⟨b2, hb2⟩ : ∃ m, y.f2.length = m := ⟨_, rfl⟩
        obtain ⟨b4, hb4⟩ : ∃ m, y.f4.length = m := ⟨_, rfl⟩
        have HY2b : Aside0 (wr.cell? ⟨(bd.add (j * 5)).block, (bd.add (j * 5)).off + 2, none⟩ = some (.slice R2 b2 g2)) := by rw [← hb2]; exact HY2
        have HY4b : Aside0 (wr.cell? ⟨(bd.add (j * 5)).block, (bd.add (j * 5)).off + 4, none⟩ = some (.slice R4 b4 g4)) := by rw [← hb4]; exact HY4
        rw [ha2] at hx2
        rw [ha4] at hx4
        simp only [ha2, ha4, hb2, hb4] at hcall
        clear ha2 ha4 hb2 hb4 HY2 HY4
        go_upto_region 6 with (fail)
        obtain ⟨w5, hw5⟩ : ∃ w5, wr.alloc (Obj.cells #[Value.string x.f0, Value.string x.f1, Value.slice P2 a2 e2, Value.string x.f3, Value.slice P4 a4 e4] 25) = w5 := ⟨_, rfl⟩
        rw [hw5]
        obtain ⟨b8, hb8⟩ : ∃ b, wr.heap.size = b := ⟨_, rfl⟩
        have hB5 : Below wr.heap.size wr w5 := by rw [← hw5]; exact (Below.refl _ _).alloc (Nat.le_refl _) _
        have h85 : w5.heap[b8]? = some (.cells #[.string x.f0, .string x.f1, .slice P2 a2 e2, .string x.f3, .slice P4 a4 e4] 25 (0, 0)) := by rw [← hw5, ← hb8]; exact blk_new _ _
        have hcy : ∀ (a : Addr) v, wr.cell? a = some v → w5.cell? a = some v := fun a v h => (hB5.cell (World.block_lt_of_cell? wr _ h)).trans h
        have hy0 := hcy _ _ HY0.out
        have hy1 := hcy _ _ HY1.out
        have hy2 := hcy _ _ HY2b.out
        have hy3 := hcy _ _ HY3.out
        have hy4 := hcy _ _ HY4b.out
        have H85 := Aside0.mk h85
        have HB5 := Aside0.mk (below_step HH.out.2 hB5)
        rw [hb8]
        clear hB5 h85 hcy hx0 hx1 hx2 hx3 hx4 hb8 hw5
        go_upto_region 7 with (fail)
        obtain ⟨w6, hw6⟩ : ∃ w6, w5.alloc (Obj.cells #[Value.string y.f0, Value.string y.f1, Value.slice R2 b2 g2, Value.string y.f3, Value.slice R4 b4 g4] 25) = w6 := ⟨_, rfl⟩
        rw [hw6]
        obtain ⟨b9, hb9⟩ : ∃ b, w5.heap.size = b := ⟨_, rfl⟩
        have hB6 : Below w5.heap.size w5 w6 := by rw [← hw6]; exact (Below.refl _ _).alloc (Nat.le_refl _) _
        have h96 : w6.heap[b9]? = some (.cells #[.string y.f0, .string y.f1, .slice R2 b2 g2, .string y.f3, .slice R4 b4 g4] 25 (0, 0)) := by rw [← hw6, ← hb9]; exact blk_new _ _
        have h86 : w6.heap[b8]? = some (.cells #[.string x.f0, .string x.f1, .slice P2 a2 e2, .string x.f3, .slice P4 a4 e4] 25 (0, 0)) := blk_below H85.out hB6
        have HB6 := Aside0.mk (below_step HB5.out hB6)
        rw [hb9]
        clear hB6 hy0 hy1 hy2 hy3 hy4 hb9 hw6
        have hu0 : w6.cell? ⟨b8, 0, none⟩ = some (.string x.f0) := (blk_cell h86 0).trans rfl
        have hu1 : w6.cell? ⟨b8, 1, none⟩ = some (.string x.f1) := (blk_cell h86 1).trans rfl
        have hu2 : w6.cell? ⟨b8, 2, none⟩ = some (.slice P2 a2 e2) := (blk_cell h86 2).trans rfl
        have hu3 : w6.cell? ⟨b8, 3, none⟩ = some (.string x.f3) := (blk_cell h86 3).trans rfl
        have hu4 : w6.cell? ⟨b8, 4, none⟩ = some (.slice P4 a4 e4) := (blk_cell h86 4).trans rfl
        have hv0 : w6.cell? ⟨b9, 0, none⟩ = some (.string y.f0) := (blk_cell h96 0).trans rfl
        have hv1 : w6.cell? ⟨b9, 1, none⟩ = some (.string y.f1) := (blk_cell h96 1).trans rfl
        have hv2 : w6.cell? ⟨b9, 2, none⟩ = some (.slice R2 b2 g2) := (blk_cell h96 2).trans rfl
        have hv3 : w6.cell? ⟨b9, 3, none⟩ = some (.string y.f3) := (blk_cell h96 3).trans rfl
        have hv4 : w6.cell? ⟨b9, 4, none⟩ = some (.slice R4 b4 g4) := (blk_cell h96 4).trans rfl
        clear h86 h96
        have hcall6 := hcall w6 HB6.out
        clear hcall
        cases hqq : q x y with
        | true =>
          rw [hqq] at hcall6
          go_wp2_with (fail)
          refine hcall6.mono ?_
          rintro e w7 ⟨rfl, hb7⟩
          clear hcall6
          go_wp2_with (fail)
          go_roundg (n - j)
          case measure => omega
          case rel => exact ⟨j + 1, by omega, by omega, rfl, ⟨by rw [HH.out.1, HST.out, hqq, Bool.true_and], below_step HB6.out hb7⟩⟩
        | false =>
          rw [hqq] at hcall6
          go_wp2_with (fail)
          refine hcall6.mono ?_
          rintro e w7 ⟨rfl, hb7⟩
          clear hcall6
          go_wp2_with (fail)
          go_ret
          rw [HH.out.1, HST.out, hqq, Bool.false_and]
          exact ⟨rfl, below_step HB6.out hb7⟩
      · have hd0 : decide ((j : Int) < (n : Int)) = false := decide_eq_false (by omega)
        have hz : listEq q l m = true := by
          rw [HH.out.1, List.drop_eq_nil_of_le (by rw [HN.out]; omega), List.drop_eq_nil_of_le (by rw [HMM.out]; omega)]
          rfl
        have HZ := Aside0.mk hz
        clear hz
        go_wp2_with (fail)
        go_ret
        rw [HZ.out]
        exact ⟨rfl, HH.out.2⟩
  · have hbq : ((n : Int) != (mm : Int)) = true := by simp; omega
    have hbr : ((n : Int) == (mm : Int)) = false := by simp; omega
    have hbs : decide ((n : Int) = (mm : Int)) = false := decide_eq_false (by omega)
    have hz : listEq q l m = false := HNE.out (by rw [HN.out, HMM.out]; exact he)
    have HZ := Aside0.mk hz
    clear hz
    go_wp2_with (fail)
    go_ret
    rw [HZ.out]
    exact ⟨rfl, Below.refl _ _⟩

end Go.Proofs.Ytepdfpclicdpfaa.H
