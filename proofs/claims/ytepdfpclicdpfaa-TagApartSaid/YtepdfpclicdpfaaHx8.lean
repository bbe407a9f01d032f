-- written by hp.py for this claim, out of the kit's printer and texts of my own
import Derived.Test.YtepdfpclicdpfaaHx0
import Derived.Test.YtepdfpclicdpfaaHx6
import Derived.Test.YtepdfpclicdpfaaHx14
import Derived.Test.YtepdfpclicdpfaaHx16
import Derived.Test.YtepdfpclicdpfaaHx20001
import Derived.Test.YtepdfpclicdpfaaHx20002
import Derived.Test.YtepdfpclicdpfaaHx20003
import Derived.Test.YtepdfpclicdpfaaHx20003
import Derived.Test.YtepdfpclicdpfaaHx6
import Derived.Test.YtepdfpclicdpfaaHx14
import Derived.Test.YtepdfpclicdpfaaHx16
import Derived.Lib.Hide
import Derived.Deep.DeepCutAuto
namespace Go.Proofs.Ytepdfpclicdpfaa.H
open Go.RowKit Go.Proofs.YtepdfpclicdpfaaW.PrintWords Go.Proofs.YtepdfpclicdpfaaW.PrintLast Go.Proofs.YtepdfpclicdpfaaW.PrintMore
attribute [local go_sem] max2_int min2_int max_two min_two max_three min_three max_four min_four   -- for this text's walks alone
set_option linter.unusedVariables false
set_option linter.unusedSimpArgs false

def wharflaw05_live.f : Option Bool := some true
abbrev liK : S25 := ⟨⟨#[97]⟩, ⟨#[107]⟩, [], ⟨#[60]⟩, []⟩
abbrev liA : S51 := ⟨⟨#[99]⟩, ⟨#[100, 39]⟩⟩
abbrev liE : S25 := ⟨⟨#[97]⟩, ⟨#[98]⟩, [liA], ⟨#[]⟩, [liK]⟩
abbrev liZ : S25 := ⟨⟨#[]⟩, ⟨#[]⟩, [], ⟨#[]⟩, []⟩
theorem li_new : tag_New.f 10 ⟨#[97]⟩ ⟨#[98]⟩ [⟨#[99]⟩, ⟨#[100, 39]⟩, ⟨#[120]⟩, ⟨#[]⟩] = some (⟨#[97]⟩, ⟨#[98]⟩, [liA], ⟨#[]⟩, []) := by kernel_rfl
theorem li_put : putL 16 liE ⟨#[]⟩ = [60, 98, 32, 120, 109, 108, 110, 115, 61, 39, 97, 39, 32, 99, 61, 39, 100, 38, 97, 112, 111, 115, 59, 39, 62, 60, 107, 62, 38, 108, 116, 59, 60, 47, 107, 62, 60, 47, 98, 62] := by decide +kernel
theorem li_elem : elemB 16 liE = true := by decide +kernel
theorem li_check : checkI liE = 0 := by
  unfold checkI
  rw [if_pos li_elem, li_put]
  rfl
theorem li_checkZ : checkI liZ = 50 := by
  unfold checkI
  rw [if_neg (by decide +kernel)]
theorem li_same : sameF 16 liE liE = true := by decide +kernel
theorem li_at1 : tag_Attr.f 10 liE.f0 liE.f1 liE.f2 liE.f3 liE.f4 ⟨#[99]⟩ = some ⟨#[100, 39]⟩ := by kernel_rfl
theorem li_at2 : tag_Attr.f 10 liE.f0 liE.f1 liE.f2 liE.f3 liE.f4 ⟨#[120]⟩ = some ⟨#[]⟩ := by kernel_rfl
theorem li_kid1 : elIdx liE.f4 (kidP ⟨#[97]⟩ ⟨#[107]⟩) = 0 := by decide +kernel
theorem li_kid2 : elIdx liE.f4 (kidP ⟨#[122]⟩ ⟨#[107]⟩) = 1 := by decide +kernel
theorem li_ok : eOk 16 liE := by
  refine ⟨⟨by decide, by decide, by decide, by decide, by decide⟩, ?_, ?_⟩
  · intro x hx
    obtain rfl : x = liA := by simpa using hx
    exact ⟨by decide, by decide⟩
  · intro x hx
    obtain rfl : x = liK := by simpa using hx
    exact ⟨⟨by decide, by decide, by decide, by decide, by decide⟩, fun x hx => by simp at hx, fun x hx => by simp at hx⟩
theorem li_okZ : eOk 16 liZ := ⟨⟨by decide, by decide, by decide, by decide, by decide⟩, fun x hx => by simp at hx, fun x hx => by simp at hx⟩
theorem li_dOk : dOk 16 liE := elemB_dOk 16 liE li_elem
theorem one25 {W : World} {b : Nat} {x : S25} {cs : Array Value} (hb : W.heap[b]? = some (.cells cs 25 (0, 0))) (hl : cs.size = 5) (hk : k25.K W x cs.toList) : Kd.C k25 W (some ⟨b, 0, none⟩) 1 [x] :=
  ⟨rfl, by omega, fun _ => ⟨_, rfl, fun j p hj => by
    obtain rfl : j = 0 := by
      cases j with
      | zero => rfl
      | succ j => simp at hj
    obtain rfl : x = p := by simpa using hj
    refine ⟨cs.toList, by rw [Array.length_toList]; exact hl, hk, fun i u hu => ?_⟩
    have h1 : W.cell? ⟨b, i, none⟩ = cs[i]? := blk_cell hb i
    have h2 : (⟨b, 0, none⟩ : Addr).add (0 * k25.sz + i) = ⟨b, i, none⟩ := by
      unfold Addr.add
      split
      · next h => rw [show i = 0 by omega]
      · simp
    rw [h2, h1]
    simpa using hu⟩⟩
theorem add_zero_off (b i : Nat) : (⟨b, 0, none⟩ : Addr).add i = ⟨b, i, none⟩ := by
  unfold Addr.add
  split
  · next h => rw [show i = 0 by omega]
  · simp
theorem rowStr {W : World} {b : Nat} {t : TypeId} (ss : List ByteArray) (hb : W.heap[b]? = some (.cells (ss.map Value.string).toArray t (0, 0))) (hl : ss.length ≤ 1000) : Kd.C Kd.string W (some ⟨b, 0, none⟩) ss.length ss :=
  ⟨rfl, by omega, fun _ => ⟨_, rfl, fun j p hj => ⟨[.string p], rfl, rfl, fun i u hu => by
    obtain rfl : i = 0 := by
      cases i with
      | zero => rfl
      | succ i => simp at hu
    have h1 : W.cell? ⟨b, j, none⟩ = (ss.map Value.string).toArray[j]? := blk_cell hb j
    rw [show j * Kd.string.sz + 0 = j by show j * 1 + 0 = j; omega, add_zero_off, h1]
    simp only [List.getElem?_toArray, List.getElem?_map, hj]
    exact hu⟩⟩⟩
/-- the element lies in memory -/
structure LiAt (w : World) (g : Nat) (A2 A4 : Option Addr) (c2 : Nat) (W : World) : Prop where
  blk : W.heap[g]? = some (.cells #[.string ⟨#[97]⟩, .string ⟨#[98]⟩, .slice A2 1 c2, .string ⟨#[]⟩, .slice A4 1 1] 25 (0, 0))
  at2 : Kd.C k51 W A2 1 [liA]
  at4 : Kd.C k25 W A4 1 [liK]
  hc2 : 1 ≤ c2
  bel : Below w.heap.size w W
theorem LiAt.below {w : World} {g : Nat} {A2 A4 : Option Addr} {c2 : Nat} {W W' : World} (h : LiAt w g A2 A4 c2 W) (hb : Below W.heap.size W W') : LiAt w g A2 A4 c2 W' :=
  ⟨blk_below h.blk hb, Kd.C_below h.at2 hb, Kd.C_below h.at4 hb, h.hc2, below_step h.bel hb⟩
abbrev liV (A2 A4 : Option Addr) (c2 : Nat) : Value := .agg #[.string ⟨#[97]⟩, .string ⟨#[98]⟩, .slice A2 1 c2, .string ⟨#[]⟩, .slice A4 1 1]
theorem LiAt.kid1 {w : World} {g : Nat} {A2 A4 : Option Addr} {c2 : Nat} {W : World} (h : LiAt w g A2 A4 c2 W) :
    Calls Try.prog 15 #[.agg #[.string ⟨#[97]⟩, .string ⟨#[98]⟩, .slice A2 1 c2, .string ⟨#[]⟩, .slice A4 1 1], .string ⟨#[97]⟩, .string ⟨#[107]⟩] W fun r W' => ∃ B2 d2 B4 d4, r = .returned (.tuple #[.agg #[.string ⟨#[97]⟩, .string ⟨#[107]⟩, .slice B2 0 d2, .string ⟨#[60]⟩, .slice B4 0 d4], .bool true]) ∧ LiAt w g A2 A4 c2 W' ∧ Below W.heap.size W W' := by
  refine (kid_calls liE ⟨#[97]⟩ ⟨#[107]⟩ A2 A4 c2 1 W (Nat.le_refl 1) h.at4 (by decide)).mono ?_
  rintro r W' ⟨cs, ok, rfl, hk, hb⟩
  rcases hk with ⟨_, rfl, x, hx, hK⟩ | ⟨h1, _⟩
  · rw [li_kid1] at hx
    obtain rfl : liK = x := by simpa using hx
    obtain ⟨B2, d2, B4, d4, hcs, _⟩ := k25_open hK
    obtain ⟨cs⟩ := cs
    obtain rfl : cs = _ := hcs
    exact ⟨B2, d2, B4, d4, rfl, h.below hb, hb⟩
  · exact absurd (by rw [li_kid1]; decide) h1
theorem LiAt.kid2 {w : World} {g : Nat} {A2 A4 : Option Addr} {c2 : Nat} {W : World} (h : LiAt w g A2 A4 c2 W) :
    Calls Try.prog 15 #[.agg #[.string ⟨#[97]⟩, .string ⟨#[98]⟩, .slice A2 1 c2, .string ⟨#[]⟩, .slice A4 1 1], .string ⟨#[122]⟩, .string ⟨#[107]⟩] W fun r W' => r = .returned (.tuple #[.agg #[.string ⟨#[]⟩, .string ⟨#[]⟩, .slice none 0 0, .string ⟨#[]⟩, .slice none 0 0], .bool false]) ∧ LiAt w g A2 A4 c2 W' ∧ Below W.heap.size W W' := by
  refine (kid_calls liE ⟨#[122]⟩ ⟨#[107]⟩ A2 A4 c2 1 W (Nat.le_refl 1) h.at4 (by decide)).mono ?_
  rintro r W' ⟨cs, ok, rfl, hk, hb⟩
  rcases hk with ⟨h1, _⟩ | ⟨_, rfl, rfl⟩
  · exact absurd h1 (by rw [li_kid2]; decide)
  · exact ⟨rfl, h.below hb, hb⟩
theorem LiAt.put {w : World} {g : Nat} {A2 A4 : Option Addr} {c2 : Nat} {W : World} (h : LiAt w g A2 A4 c2 W) :
    Calls Try.prog 9 #[.agg #[.string ⟨#[97]⟩, .string ⟨#[98]⟩, .slice A2 1 c2, .string ⟨#[]⟩, .slice A4 1 1], .string ⟨#[]⟩] W fun r W' => r = .returned (.string ⟨#[60, 98, 32, 120, 109, 108, 110, 115, 61, 39, 97, 39, 32, 99, 61, 39, 100, 38, 97, 112, 111, 115, 59, 39, 62, 60, 107, 62, 38, 108, 116, 59, 60, 47, 107, 62, 60, 47, 98, 62]⟩) ∧ LiAt w g A2 A4 c2 W' ∧ Below W.heap.size W W' := by
  refine (put_calls 16 liE ⟨#[]⟩ A2 A4 c2 1 W li_dOk h.hc2 h.at2 (Nat.le_refl 1) h.at4 (by rw [li_put]; decide)).mono ?_
  rintro r W' ⟨rfl, hb⟩
  exact ⟨by rw [li_put], h.below hb, hb⟩
theorem LiAt.attr1 {w : World} {g : Nat} {A2 A4 : Option Addr} {c2 : Nat} {W : World} (h : LiAt w g A2 A4 c2 W) :
    Calls Try.prog 16 #[.agg #[.string ⟨#[97]⟩, .string ⟨#[98]⟩, .slice A2 1 c2, .string ⟨#[]⟩, .slice A4 1 1], .string ⟨#[99]⟩] W fun r W' => r = .returned (.string ⟨#[100, 39]⟩) ∧ LiAt w g A2 A4 c2 W' ∧ Below W.heap.size W W' := by
  refine (tag_Attr.calls 10 liE.f0 liE.f1 A2 c2 liE.f2 liE.f3 A4 1 liE.f4 ⟨#[99]⟩ _ W h.at2 h.hc2 h.at4 (Nat.le_refl 1) li_at1).mono ?_
  rintro r W' ⟨rfl, hb⟩
  exact ⟨rfl, h.below hb, hb⟩
theorem LiAt.attr2 {w : World} {g : Nat} {A2 A4 : Option Addr} {c2 : Nat} {W : World} (h : LiAt w g A2 A4 c2 W) :
    Calls Try.prog 16 #[.agg #[.string ⟨#[97]⟩, .string ⟨#[98]⟩, .slice A2 1 c2, .string ⟨#[]⟩, .slice A4 1 1], .string ⟨#[120]⟩] W fun r W' => r = .returned (.string ⟨#[]⟩) ∧ LiAt w g A2 A4 c2 W' ∧ Below W.heap.size W W' := by
  refine (tag_Attr.calls 10 liE.f0 liE.f1 A2 c2 liE.f2 liE.f3 A4 1 liE.f4 ⟨#[120]⟩ _ W h.at2 h.hc2 h.at4 (Nat.le_refl 1) li_at2).mono ?_
  rintro r W' ⟨rfl, hb⟩
  exact ⟨rfl, h.below hb, hb⟩
theorem LiAt.check {w : World} {g : Nat} {A2 A4 : Option Addr} {c2 : Nat} {W : World} (h : LiAt w g A2 A4 c2 W) :
    Calls Try.prog 7 #[.agg #[.string ⟨#[97]⟩, .string ⟨#[98]⟩, .slice A2 1 c2, .string ⟨#[]⟩, .slice A4 1 1]] W fun r W' => r = .returned (.int .i64 0) ∧ LiAt w g A2 A4 c2 W' ∧ Below W.heap.size W W' := by
  refine (check_calls liE A2 A4 c2 1 W li_ok h.hc2 h.at2 (Nat.le_refl 1) h.at4 (fun _ => by rw [li_put]; decide)).mono ?_
  rintro r W' ⟨rfl, hb⟩
  exact ⟨by rw [li_check], h.below hb, hb⟩
theorem LiAt.checkZ {w : World} {g : Nat} {A2 A4 : Option Addr} {c2 : Nat} {W : World} (h : LiAt w g A2 A4 c2 W) :
    Calls Try.prog 7 #[.agg #[.string ⟨#[]⟩, .string ⟨#[]⟩, .slice none 0 0, .string ⟨#[]⟩, .slice none 0 0]] W fun r W' => r = .returned (.int .i64 50) ∧ LiAt w g A2 A4 c2 W' ∧ Below W.heap.size W W' := by
  refine (check_calls liZ none none 0 0 W li_okZ (Nat.le_refl 0) (Kd.C_nil k51 W) (Nat.le_refl 0) (Kd.C_nil k25 W) (fun h => absurd h (by decide +kernel))).mono ?_
  rintro r W' ⟨rfl, hb⟩
  exact ⟨by rw [li_checkZ], h.below hb, hb⟩
theorem LiAt.same {w : World} {g : Nat} {A2 A4 : Option Addr} {c2 : Nat} {W : World} (h : LiAt w g A2 A4 c2 W) :
    Calls Try.prog 10 #[.agg #[.string ⟨#[97]⟩, .string ⟨#[98]⟩, .slice A2 1 c2, .string ⟨#[]⟩, .slice A4 1 1], .agg #[.string ⟨#[97]⟩, .string ⟨#[98]⟩, .slice A2 1 c2, .string ⟨#[]⟩, .slice A4 1 1]] W fun r W' => r = .returned (.bool true) ∧ LiAt w g A2 A4 c2 W' ∧ Below W.heap.size W W' := by
  refine (same_all 16 liE liE A2 A4 A2 A4 c2 1 c2 1 W li_dOk h.hc2 h.at2 (Nat.le_refl 1) h.at4 h.hc2 h.at2 (Nat.le_refl 1) h.at4 li_ok).mono ?_
  rintro r W' ⟨rfl, hb⟩
  exact ⟨by rw [li_same], h.below hb, hb⟩
set_option maxRecDepth 100000 in
set_option maxHeartbeats 4000000 in
theorem wharflaw05_live.calls (r : Bool) (w : World) (h : wharflaw05_live.f = some r) :
    Calls Try.prog 8 #[] w fun e w' => e = .returned (.bool r) ∧ Below w.heap.size w w' := by
  obtain rfl := Option.some.inj h
  clear h
  have hu25 := Try.underlying25
  go_enter Try.func8, Try.ntmps8
  go_upto_region 1 with (fail)
  have hrow : ∀ W1 : World, Kd.C Kd.string (W1.alloc (.cells #[.string ⟨#[99]⟩, .string ⟨#[100, 39]⟩, .string ⟨#[120]⟩, .string ⟨#[]⟩] 9)) (some ⟨W1.heap.size, 0, none⟩) 4 [⟨#[99]⟩, ⟨#[100, 39]⟩, ⟨#[120]⟩, ⟨#[]⟩] := fun W1 => rowStr [⟨#[99]⟩, ⟨#[100, 39]⟩, ⟨#[120]⟩, ⟨#[]⟩] (blk_new _ _) (by decide)
  have HROW := Aside0.mk hrow
  clear hrow
  go_upto_region 2 with (fail)
  refine (tag_New.calls 10 _ _ (fun _ => True) (some ⟨w.heap.size, 0, none⟩) 4 [⟨#[99]⟩, ⟨#[100, 39]⟩, ⟨#[120]⟩, ⟨#[]⟩] _ _ _ _ _ _ (Kd.V_mk (Nat.le_refl 4) (Kd.F_mono (Kd.C_F Kd.heap_string (HROW.out w)) (fun _ _ => True.intro))) li_new).mono ?_
  rintro e w1 ⟨v2, v4, rfl, hr2, hr4, hb1⟩
  obtain ⟨A2, c2, rfl, hc2, hC2⟩ := Kd.R_reads hr2
  obtain ⟨A4, c4, rfl, hc4, hC4⟩ := Kd.R_reads hr4
  have HC2 := Aside0.mk hC2
  have HC2l := Aside0.mk hc2
  have hBw1 : Below w.heap.size w w1 := below_step ((Below.refl _ _).alloc (Nat.le_refl _) _) hb1
  have HBw1 := Aside0.mk hBw1
  clear hr2 hr4 hb1 hBw1 hC2 hC4 hc2 hc4 HROW
  go_upto_region 2 with (fail)
  obtain ⟨w2, hw2⟩ : ∃ w2, w1.alloc (.cells #[.string ⟨#[97]⟩, .string ⟨#[98]⟩, .slice A2 1 c2, .string ⟨#[]⟩, .slice A4 0 c4] 25) = w2 := ⟨_, rfl⟩
  obtain ⟨g1, hg1⟩ : ∃ g, w1.heap.size = g := ⟨_, rfl⟩
  have hB2 : Below w1.heap.size w1 w2 := by rw [← hw2]; exact (Below.refl _ _).alloc (Nat.le_refl _) _
  have h12 : w2.heap[g1]? = some (.cells #[.string ⟨#[97]⟩, .string ⟨#[98]⟩, .slice A2 1 c2, .string ⟨#[]⟩, .slice A4 0 c4] 25 (0, 0)) := by rw [← hw2, ← hg1]; exact blk_new _ _
  rw [hw2, hg1]
  obtain ⟨g2, hg2⟩ : ∃ g, w2.heap.size = g := ⟨_, rfl⟩
  have hBa : Below w2.heap.size w2 (w2.alloc (.cells #[.string ⟨#[97]⟩, .string ⟨#[107]⟩, .slice none 0 0, .string ⟨#[60]⟩, .slice none 0 0] 25)) := (Below.refl _ _).alloc (Nat.le_refl _) _
  have h14 : (w2.alloc (.cells #[.string ⟨#[97]⟩, .string ⟨#[107]⟩, .slice none 0 0, .string ⟨#[60]⟩, .slice none 0 0] 25)).cell? ⟨g1, 4, none⟩ = some (.slice A4 0 c4) := (blk_cell (blk_below h12 hBa) 4).trans rfl
  have f14 : (w2.alloc (.cells #[.string ⟨#[97]⟩, .string ⟨#[107]⟩, .slice none 0 0, .string ⟨#[60]⟩, .slice none 0 0] 25)).frozen? ⟨g1, 4, none⟩ = false := blk_frozen (blk_below h12 hBa) 4
  have H12 := Aside0.mk h12
  have HB2 := Aside0.mk hB2
  have hne : g2 ≠ g1 := by have := blk_lt h12; omega
  have hle1 : w.heap.size ≤ g1 := by rw [← hg1]; exact HBw1.out.size
  clear hw2 h12 hB2 hBa
  go_upto_region 3 with (fail)
  obtain ⟨w3, hw3⟩ : ∃ w3, (w2.alloc (.cells #[.string ⟨#[97]⟩, .string ⟨#[107]⟩, .slice none 0 0, .string ⟨#[60]⟩, .slice none 0 0] 25)).setCell ⟨g1, 4, none⟩ (.slice (some ⟨g2, 0, none⟩) 1 1) = w3 := ⟨_, rfl⟩
  rw [hw3]
  have HL : Aside0 (LiAt w g1 A2 (some ⟨g2, 0, none⟩) c2 w3) := by
    have hB3 : Below w2.heap.size w2 (w2.alloc (.cells #[.string ⟨#[97]⟩, .string ⟨#[107]⟩, .slice none 0 0, .string ⟨#[60]⟩, .slice none 0 0] 25)) := (Below.refl _ _).alloc (Nat.le_refl _) _
    have hBw2 := below_step HBw1.out HB2.out
    have hn2 : (w2.alloc (.cells #[.string ⟨#[97]⟩, .string ⟨#[107]⟩, .slice none 0 0, .string ⟨#[60]⟩, .slice none 0 0] 25)).heap[g2]? = some (.cells #[.string ⟨#[97]⟩, .string ⟨#[107]⟩, .slice none 0 0, .string ⟨#[60]⟩, .slice none 0 0] 25 (0, 0)) := by rw [← hg2]; exact blk_new _ _
    have hn3 : w3.heap[g2]? = some (.cells #[.string ⟨#[97]⟩, .string ⟨#[107]⟩, .slice none 0 0, .string ⟨#[60]⟩, .slice none 0 0] 25 (0, 0)) := by rw [← hw3]; exact blk_far hn2 (by exact hne) _
    have hBs : Below w1.heap.size w1 w3 := by rw [← hw3]; exact below_set (below_step HB2.out hB3) (Nat.le_of_eq hg1)
    refine ⟨?_, Kd.C_below HC2.out hBs, one25 hn3 rfl (k25_mk w3 liK (Nat.le_refl 0) (Kd.C_nil k51 w3) (Nat.le_refl 0) (Kd.C_nil k25 w3)), HC2l.out, below_step HBw1.out hBs⟩
    rw [← hw3]
    exact blk_put (blk_below H12.out hB3) 4 _ rfl
  clear hw3 hg2 h14 f14 H12 HB2 HC2 HC2l HBw1
  have q0 : w3.cell? ⟨g1, 0, none⟩ = some (.string ⟨#[97]⟩) := (blk_cell HL.out.blk 0).trans rfl
  have q1 : w3.cell? ⟨g1, 1, none⟩ = some (.string ⟨#[98]⟩) := (blk_cell HL.out.blk 1).trans rfl
  have q2 : w3.cell? ⟨g1, 2, none⟩ = some (.slice A2 1 c2) := (blk_cell HL.out.blk 2).trans rfl
  have q3 : w3.cell? ⟨g1, 3, none⟩ = some (.string ⟨#[]⟩) := (blk_cell HL.out.blk 3).trans rfl
  have q4 : w3.cell? ⟨g1, 4, none⟩ = some (.slice (some ⟨g2, 0, none⟩) 1 1) := (blk_cell HL.out.blk 4).trans rfl
  go_upto_region 4 with (first
    | (go_at_call 15; refine (HL.out.kid1).mono ?_; rintro e w4 ⟨B2, d2, B4, d4, rfl, hl4, hb4⟩; clear hb4))
  obtain ⟨w5, hw5⟩ : ∃ w5, w4.alloc (.cells #[.string ⟨#[97]⟩, .string ⟨#[107]⟩, .slice B2 0 d2, .string ⟨#[60]⟩, .slice B4 0 d4] 25) = w5 := ⟨_, rfl⟩
  obtain ⟨g5, hg5⟩ : ∃ g, w4.heap.size = g := ⟨_, rfl⟩
  rw [hw5, hg5]
  have hB5 : Below w4.heap.size w4 w5 := by rw [← hw5]; exact (Below.refl _ _).alloc (Nat.le_refl _) _
  have HK : Aside0 (w5.heap[g5]? = some (.cells #[.string ⟨#[97]⟩, .string ⟨#[107]⟩, .slice B2 0 d2, .string ⟨#[60]⟩, .slice B4 0 d4] 25 (0, 0))) := ⟨by rw [← hw5, ← hg5]; exact blk_new _ _⟩
  have HL5 := Aside0.mk (hl4.below hB5)
  clear HL hw5 hg5 hB5 hl4
  have HL := HL5
  clear HL5
  have q0 : w5.cell? ⟨g1, 0, none⟩ = some (.string ⟨#[97]⟩) := (blk_cell HL.out.blk 0).trans rfl
  have q1 : w5.cell? ⟨g1, 1, none⟩ = some (.string ⟨#[98]⟩) := (blk_cell HL.out.blk 1).trans rfl
  have q2 : w5.cell? ⟨g1, 2, none⟩ = some (.slice A2 1 c2) := (blk_cell HL.out.blk 2).trans rfl
  have q3 : w5.cell? ⟨g1, 3, none⟩ = some (.string ⟨#[]⟩) := (blk_cell HL.out.blk 3).trans rfl
  have q4 : w5.cell? ⟨g1, 4, none⟩ = some (.slice (some ⟨g2, 0, none⟩) 1 1) := (blk_cell HL.out.blk 4).trans rfl
  have q5 : w5.cell? ⟨g5, 3, none⟩ = some (.string ⟨#[60]⟩) := (blk_cell HK.out 3).trans rfl
  go_upto_region 5 with (first
    | (go_at_call 15; refine (HL.out.kid2).mono ?_; rintro e w6 ⟨rfl, hl6, hb6⟩; have HK2 := Aside0.mk (blk_below HK.out hb6); clear hb6))
  obtain ⟨w7, hw7⟩ : ∃ w7, w6.alloc (.cells #[.string ⟨#[]⟩, .string ⟨#[]⟩, .slice none 0 0, .string ⟨#[]⟩, .slice none 0 0] 25) = w7 := ⟨_, rfl⟩
  rw [hw7]
  have hB7 : Below w6.heap.size w6 w7 := by rw [← hw7]; exact (Below.refl _ _).alloc (Nat.le_refl _) _
  have HL7 := Aside0.mk (hl6.below hB7)
  have HK7 := Aside0.mk (blk_below HK2.out hB7)
  clear HL HK HK2 hw7 hB7 hl6
  have HL := HL7
  have HK := HK7
  clear HL7 HK7
  have q0 : w7.cell? ⟨g1, 0, none⟩ = some (.string ⟨#[97]⟩) := (blk_cell HL.out.blk 0).trans rfl
  have q1 : w7.cell? ⟨g1, 1, none⟩ = some (.string ⟨#[98]⟩) := (blk_cell HL.out.blk 1).trans rfl
  have q2 : w7.cell? ⟨g1, 2, none⟩ = some (.slice A2 1 c2) := (blk_cell HL.out.blk 2).trans rfl
  have q3 : w7.cell? ⟨g1, 3, none⟩ = some (.string ⟨#[]⟩) := (blk_cell HL.out.blk 3).trans rfl
  have q4 : w7.cell? ⟨g1, 4, none⟩ = some (.slice (some ⟨g2, 0, none⟩) 1 1) := (blk_cell HL.out.blk 4).trans rfl
  have q5 : w7.cell? ⟨g5, 3, none⟩ = some (.string ⟨#[60]⟩) := (blk_cell HK.out 3).trans rfl
  go_wp2_with (first
    | (go_at_call 9; ((with_reducible refine (HL.out.put).mono ?_); rintro e w8 ⟨rfl, hl8, hb8⟩; have HK2 := Aside0.mk (blk_below HK.out hb8); clear HL HK; have HL := Aside0.mk hl8; have HK := HK2; clear HK2; have q0 : w8.cell? ⟨g1, 0, none⟩ = some (.string ⟨#[97]⟩) := (blk_cell HL.out.blk 0).trans rfl; have q1 : w8.cell? ⟨g1, 1, none⟩ = some (.string ⟨#[98]⟩) := (blk_cell HL.out.blk 1).trans rfl; have q2 : w8.cell? ⟨g1, 2, none⟩ = some (.slice A2 1 c2) := (blk_cell HL.out.blk 2).trans rfl; have q3 : w8.cell? ⟨g1, 3, none⟩ = some (.string ⟨#[]⟩) := (blk_cell HL.out.blk 3).trans rfl; have q4 : w8.cell? ⟨g1, 4, none⟩ = some (.slice (some ⟨g2, 0, none⟩) 1 1) := (blk_cell HL.out.blk 4).trans rfl; have q5 : w8.cell? ⟨g5, 3, none⟩ = some (.string ⟨#[60]⟩) := (blk_cell HK.out 3).trans rfl; clear hl8 hb8))
    | (go_at_call 16; (first | ((with_reducible refine (HL.out.attr1).mono ?_); rintro e w9 ⟨rfl, hl9, hb9⟩; have HK2 := Aside0.mk (blk_below HK.out hb9); clear HL HK; have HL := Aside0.mk hl9; have HK := HK2; clear HK2; have q0 : w9.cell? ⟨g1, 0, none⟩ = some (.string ⟨#[97]⟩) := (blk_cell HL.out.blk 0).trans rfl; have q1 : w9.cell? ⟨g1, 1, none⟩ = some (.string ⟨#[98]⟩) := (blk_cell HL.out.blk 1).trans rfl; have q2 : w9.cell? ⟨g1, 2, none⟩ = some (.slice A2 1 c2) := (blk_cell HL.out.blk 2).trans rfl; have q3 : w9.cell? ⟨g1, 3, none⟩ = some (.string ⟨#[]⟩) := (blk_cell HL.out.blk 3).trans rfl; have q4 : w9.cell? ⟨g1, 4, none⟩ = some (.slice (some ⟨g2, 0, none⟩) 1 1) := (blk_cell HL.out.blk 4).trans rfl; have q5 : w9.cell? ⟨g5, 3, none⟩ = some (.string ⟨#[60]⟩) := (blk_cell HK.out 3).trans rfl; clear hl9 hb9) | ((with_reducible refine (HL.out.attr2).mono ?_); rintro e w10 ⟨rfl, hl10, hb10⟩; have HK2 := Aside0.mk (blk_below HK.out hb10); clear HL HK; have HL := Aside0.mk hl10; have HK := HK2; clear HK2; have q0 : w10.cell? ⟨g1, 0, none⟩ = some (.string ⟨#[97]⟩) := (blk_cell HL.out.blk 0).trans rfl; have q1 : w10.cell? ⟨g1, 1, none⟩ = some (.string ⟨#[98]⟩) := (blk_cell HL.out.blk 1).trans rfl; have q2 : w10.cell? ⟨g1, 2, none⟩ = some (.slice A2 1 c2) := (blk_cell HL.out.blk 2).trans rfl; have q3 : w10.cell? ⟨g1, 3, none⟩ = some (.string ⟨#[]⟩) := (blk_cell HL.out.blk 3).trans rfl; have q4 : w10.cell? ⟨g1, 4, none⟩ = some (.slice (some ⟨g2, 0, none⟩) 1 1) := (blk_cell HL.out.blk 4).trans rfl; have q5 : w10.cell? ⟨g5, 3, none⟩ = some (.string ⟨#[60]⟩) := (blk_cell HK.out 3).trans rfl; clear hl10 hb10)))
    | (go_at_call 7; (first | ((with_reducible refine (HL.out.check).mono ?_); rintro e w11 ⟨rfl, hl11, hb11⟩; have HK2 := Aside0.mk (blk_below HK.out hb11); clear HL HK; have HL := Aside0.mk hl11; have HK := HK2; clear HK2; have q0 : w11.cell? ⟨g1, 0, none⟩ = some (.string ⟨#[97]⟩) := (blk_cell HL.out.blk 0).trans rfl; have q1 : w11.cell? ⟨g1, 1, none⟩ = some (.string ⟨#[98]⟩) := (blk_cell HL.out.blk 1).trans rfl; have q2 : w11.cell? ⟨g1, 2, none⟩ = some (.slice A2 1 c2) := (blk_cell HL.out.blk 2).trans rfl; have q3 : w11.cell? ⟨g1, 3, none⟩ = some (.string ⟨#[]⟩) := (blk_cell HL.out.blk 3).trans rfl; have q4 : w11.cell? ⟨g1, 4, none⟩ = some (.slice (some ⟨g2, 0, none⟩) 1 1) := (blk_cell HL.out.blk 4).trans rfl; have q5 : w11.cell? ⟨g5, 3, none⟩ = some (.string ⟨#[60]⟩) := (blk_cell HK.out 3).trans rfl; clear hl11 hb11) | ((with_reducible refine (HL.out.checkZ).mono ?_); rintro e w12 ⟨rfl, hl12, hb12⟩; have HK2 := Aside0.mk (blk_below HK.out hb12); clear HL HK; have HL := Aside0.mk hl12; have HK := HK2; clear HK2; have q0 : w12.cell? ⟨g1, 0, none⟩ = some (.string ⟨#[97]⟩) := (blk_cell HL.out.blk 0).trans rfl; have q1 : w12.cell? ⟨g1, 1, none⟩ = some (.string ⟨#[98]⟩) := (blk_cell HL.out.blk 1).trans rfl; have q2 : w12.cell? ⟨g1, 2, none⟩ = some (.slice A2 1 c2) := (blk_cell HL.out.blk 2).trans rfl; have q3 : w12.cell? ⟨g1, 3, none⟩ = some (.string ⟨#[]⟩) := (blk_cell HL.out.blk 3).trans rfl; have q4 : w12.cell? ⟨g1, 4, none⟩ = some (.slice (some ⟨g2, 0, none⟩) 1 1) := (blk_cell HL.out.blk 4).trans rfl; have q5 : w12.cell? ⟨g5, 3, none⟩ = some (.string ⟨#[60]⟩) := (blk_cell HK.out 3).trans rfl; clear hl12 hb12)))
    | (go_at_call 6; refine (wharflaw05_num.calls _ _ _ rfl).mono ?_; rintro e w13 ⟨rfl, ⟨nd, rfl⟩⟩; have HL2 := Aside0.mk (HL.out.below (pw_below_drewN (Below.refl _ _) nd)); have HK2 := Aside0.mk (blk_below HK.out (pw_below_drewN (Below.refl _ _) nd)); clear HL HK; have HL := HL2; have HK := HK2; clear HL2 HK2)
    | (go_at_call 10; ((with_reducible refine (HL.out.same).mono ?_); rintro e w14 ⟨rfl, hl14, hb14⟩; have HK2 := Aside0.mk (blk_below HK.out hb14); clear HL HK; have HL := Aside0.mk hl14; have HK := HK2; clear HK2; have q0 : w14.cell? ⟨g1, 0, none⟩ = some (.string ⟨#[97]⟩) := (blk_cell HL.out.blk 0).trans rfl; have q1 : w14.cell? ⟨g1, 1, none⟩ = some (.string ⟨#[98]⟩) := (blk_cell HL.out.blk 1).trans rfl; have q2 : w14.cell? ⟨g1, 2, none⟩ = some (.slice A2 1 c2) := (blk_cell HL.out.blk 2).trans rfl; have q3 : w14.cell? ⟨g1, 3, none⟩ = some (.string ⟨#[]⟩) := (blk_cell HL.out.blk 3).trans rfl; have q4 : w14.cell? ⟨g1, 4, none⟩ = some (.slice (some ⟨g2, 0, none⟩) 1 1) := (blk_cell HL.out.blk 4).trans rfl; have q5 : w14.cell? ⟨g5, 3, none⟩ = some (.string ⟨#[60]⟩) := (blk_cell HK.out 3).trans rfl; clear hl14 hb14)))
  go_ret
  exact ⟨rfl, HL.out.bel⟩

end Go.Proofs.Ytepdfpclicdpfaa.H
