-- written by hp.py for this claim, out of the kit's printer and texts of my own
import Derived.Test.YtepdfpclicdpfaaHx0
import Derived.Test.YtepdfpclicdpfaaHx21
import Derived.Test.YtepdfpclicdpfaaHx20001
import Derived.Test.YtepdfpclicdpfaaHx20001
import Derived.Lib.Hide
import Derived.Deep.LoopGhost
import Derived.Deep.DeepCutAuto
import Derived.Test.YtepdfpclicdpfaaHx21
namespace Go.Proofs.Ytepdfpclicdpfaa.H
open Go.RowKit Go.Proofs.YtepdfpclicdpfaaW.PrintWords Go.Proofs.YtepdfpclicdpfaaW.PrintLast Go.Proofs.YtepdfpclicdpfaaW.PrintMore
attribute [local go_sem] max2_int min2_int max_two min_two max_three min_three max_four min_four   -- for this text's walks alone
set_option linter.unusedVariables false
set_option linter.unusedSimpArgs false

/-- a step done: what stands, what was kept, the box -/
structure PutQ (w0 : World) (b g7 g6 gb : Nat) (cs : Array Value) (W1 : World) (acc : List UInt8) (W : World) : Prop where
  p : PutW w0 b g7 g6 acc W
  k : OK5 b W1 W
  bx : W.heap[gb]? = some (.cells cs 25 (0, 0))
  nb : gb ≠ b
theorem PutQ.step {w0 : World} {b g7 g6 gb : Nat} {cs : Array Value} {W1 : World} {acc acc' : List UInt8} {W W' : World} (h : PutQ w0 b g7 g6 gb cs W1 acc W) (hp : PutW w0 b g7 g6 acc' W') (hk : OK5 b W W') : PutQ w0 b g7 g6 gb cs W1 acc' W' :=
  ⟨hp, h.k.trans hk, hk.block h.bx h.nb (by decide), h.nb⟩
theorem PutQ.below {w0 : World} {b g7 g6 gb : Nat} {cs : Array Value} {W1 : World} {acc : List UInt8} {W W' : World} (h : PutQ w0 b g7 g6 gb cs W1 acc W) (hB : Below W.heap.size W W') : PutQ w0 b g7 g6 gb cs W1 acc W' :=
  ⟨h.p.below hB, h.k.below hB, blk_below h.bx hB, h.nb⟩
set_option maxHeartbeats 2000000 in
set_option maxRecDepth 1000000 in
theorem put2_calls (w0 : World) (b g7 g6 : Nat) : ∀ (k : Nat) (e : S25) (sp : ByteArray) (A2 A4 : Option Addr) (c2 c4 : Nat) (acc : List UInt8) (W : World) (h : PutW w0 b g7 g6 acc W) (hd : dOk k e)
    (hc2 : e.f2.length ≤ c2) (h2 : Kd.C k51 w0 A2 e.f2.length e.f2) (hc4 : e.f4.length ≤ c4) (h4 : Kd.C k25 w0 A4 e.f4.length e.f4) (hl : (acc ++ putL k e sp).length ≤ 100000000),
    Calls Try.prog 19 #[.agg #[.string e.f0, .string e.f1, .slice A2 e.f2.length c2, .string e.f3, .slice A4 e.f4.length c4], .string sp, .pointer (some ⟨b, 0, none⟩), .pointer (some ⟨g7, 0, none⟩), .pointer (some ⟨g6, 0, none⟩)] W
      fun r W' => r = .returned (.tuple #[]) ∧ PutW w0 b g7 g6 (acc ++ putL k e sp) W' ∧ OK5 b W W' := by
  intro k
  induction k with
  | zero => intro e sp A2 A4 c2 c4 acc W h hd; exact hd.elim
  | succ k ih =>
  intro e sp A2 A4 c2 c4 acc W h hd hc2 h2 hc4 h4 hl
  obtain ⟨f0, f1, f2, f3, f4⟩ := e
  simp only at h2 h4 hc2 hc4 ⊢
  simp only [dOk] at hd
  have hkl := kidsL_ge k f0 f4 hd
  have hal := attrsL_ge f2
  have hql := quoteL_ge f3.data.toList
  have hps : putL (k + 1) ⟨f0, f1, f2, f3, f4⟩ sp = [60] ++ f1.data.toList ++ nsL ⟨f0, f1, f2, f3, f4⟩ sp ++ attrsL f2 ++ (if f3.toList = [] ∧ f4.length = 0 then [47, 62] else [62] ++ quoteL f3.data.toList ++ kidsL k f4 f0 ++ [60, 47] ++ f1.data.toList ++ [62]) := rfl
  have HPS := Aside0.mk hps
  have hns : nsL ⟨f0, f1, f2, f3, f4⟩ sp = if f0.toList = sp.toList then [] else attrL xmlnsS f0 := rfl
  have HNS := Aside0.mk hns
  generalize nsL ⟨f0, f1, f2, f3, f4⟩ sp = ns at *
  generalize hP : putL (k + 1) ⟨f0, f1, f2, f3, f4⟩ sp = P at *
  have hf1 : f1.size ≤ 100000000 := by
    have h1 := hl
    rw [hps] at h1
    simp only [List.length_append, size_data] at h1
    omega
  have hb2 : f2.length ≤ 100000000 := by
    have h1 := hl
    rw [hps] at h1
    simp only [List.length_append] at h1
    omega
  have hb4 : f4.length ≤ 100000000 := by
    have h1 := hl
    rw [hps] at h1
    by_cases hc : f3.toList = [] ∧ f4.length = 0
    · omega
    · rw [if_neg hc] at h1
      simp only [List.length_append] at h1
      omega
  have hb3 : f3.size ≤ 100000000 ∧ (quoteS f3).size ≤ 100000000 := by
    have h1 := hl
    rw [hps] at h1
    have hq : (quoteS f3).size = (quoteL f3.data.toList).length := by simp [quoteS, ByteArray.size]
    rw [size_data] at hql
    by_cases hc : f3.toList = [] ∧ f4.length = 0
    · have hc1 := hc.1
      rw [ByteArray.toList_eq] at hc1
      have : f3.size = 0 := by rw [← size_data, hc1]; rfl
      rw [hc1] at hq
      have h0 : (quoteL []).length = 0 := rfl
      omega
    · rw [if_neg hc] at h1
      simp only [List.length_append] at h1
      omega
  have HD := Aside0.mk hd
  have HL := Aside0.mk hl
  have HX2 := Aside0.mk h2
  have HX4 := Aside0.mk h4
  have HIH := Aside0.mk ih
  obtain ⟨n2, hn2⟩ : ∃ n, f2.length = n := ⟨_, rfl⟩
  obtain ⟨n4, hn4⟩ : ∃ n, f4.length = n := ⟨_, rfl⟩
  have HN2 := Aside0.mk hn2
  have HN4 := Aside0.mk hn4
  rw [hn2] at hc2 hb2 hal ⊢
  rw [hn4] at hc4 hb4 hkl ⊢
  have HH := Aside0.mk h
  have hblt := h.blt
  clear h hps hns hP hd hl h2 h4 ih hn2 hn4 hkl hal hql
  have hu25 := Try.underlying25
  have t3 : (⟨#[60]⟩ ++ f1 : ByteArray).data.toList = [60] ++ f1.data.toList := by rw [data_append]
  have T3 := Aside0.mk t3
  clear t3
  go_enter Try.func19, Try.ntmps19
  go_wp2_with ((with_reducible refine gate_dst (N := 5) rfl ?_); refine box_event ?hg (N := 5) ?hd (cs := #[.string f0, .string f1, .slice A2 n2 c2, .string f3, .slice A4 n4 c4]) (t := 25) ?hr ?_; (case hd => rfl); (case hg => rfl); (case hr => first | (go_simp; done) | (go_simp; rfl)); intro gb hg w1 hbox hb; have HQ0 : Aside0 (PutQ w0 b g7 g6 gb #[.string f0, .string f1, .slice A2 n2 c2, .string f3, .slice A4 n4 c4] W (acc) w1) := ⟨HH.out.below hb, (Lib.OthersKept.refl _ _ _).below hb, hbox, by omega⟩; clear hg hb hbox; have hcz1_0 : w1.cell? ⟨gb, 0, none⟩ = some (.string f0) := (blk_cell HQ0.out.bx 0).trans rfl; have hcz1_1 : w1.cell? ⟨gb, 1, none⟩ = some (.string f1) := (blk_cell HQ0.out.bx 1).trans rfl; have hcz1_2 : w1.cell? ⟨gb, 2, none⟩ = some (.slice A2 n2 c2) := (blk_cell HQ0.out.bx 2).trans rfl; have hcz1_3 : w1.cell? ⟨gb, 3, none⟩ = some (.string f3) := (blk_cell HQ0.out.bx 3).trans rfl; have hcz1_4 : w1.cell? ⟨gb, 4, none⟩ = some (.slice A4 n4 c4) := (blk_cell HQ0.out.bx 4).trans rfl)
  have hlx2 : (acc ++ ([60] ++ f1.data.toList)).length ≤ 100000000 := by
    have h1 := HL.out; rw [HPS.out] at h1; simp only [List.length_append, List.length_cons, List.length_nil] at h1 ⊢; omega
  have hcall2 := putW_string (⟨#[60]⟩ ++ f1) HQ0.out.p T3.out hlx2
  refine hcall2.mono ?_
  clear hcall2 hlx2
  rintro e w2 ⟨nn2, rfl, hp2, hk2⟩
  have HQ2 : Aside0 (PutQ w0 b g7 g6 gb #[.string f0, .string f1, .slice A2 n2 c2, .string f3, .slice A4 n4 c4] W (acc ++ ([60] ++ f1.data.toList)) w2) := ⟨HQ0.out.step hp2 hk2⟩
  clear hp2 hk2
  have hcz2_0 : w2.cell? ⟨gb, 0, none⟩ = some (.string f0) := (blk_cell HQ2.out.bx 0).trans rfl
  have hcz2_1 : w2.cell? ⟨gb, 1, none⟩ = some (.string f1) := (blk_cell HQ2.out.bx 1).trans rfl
  have hcz2_2 : w2.cell? ⟨gb, 2, none⟩ = some (.slice A2 n2 c2) := (blk_cell HQ2.out.bx 2).trans rfl
  have hcz2_3 : w2.cell? ⟨gb, 3, none⟩ = some (.string f3) := (blk_cell HQ2.out.bx 3).trans rfl
  have hcz2_4 : w2.cell? ⟨gb, 4, none⟩ = some (.slice A4 n4 c4) := (blk_cell HQ2.out.bx 4).trans rfl
  have h72 : w2.cell? ⟨g7, 0, none⟩ = some (.func (.func 17) #[] #[.pointer (some ⟨b, 0, none⟩)]) := (blk_cell HQ2.out.p.c7 0).trans rfl
  go_upto_if 18 with (fail)
  clear hcz1_0 hcz1_1 hcz1_2 hcz1_3 hcz1_4 HQ0
  go_cut [5] (fun v wc => v = .pointer (some ⟨gb, 0, none⟩) ∧ Aside0 (PutQ w0 b g7 g6 gb #[.string f0, .string f1, .slice A2 n2 c2, .string f3, .slice A4 n4 c4] W (acc ++ ([60] ++ f1.data.toList) ++ ns) wc))
  case first =>
    cases hq : (f0.toList == sp.toList) with
    | true =>
      have hc : f0.toList = sp.toList := beq_iff_eq.1 hq
      go_wp2_with (fail)
      go_meet
      case rel => exact ⟨rfl, ⟨by rw [HNS.out, if_pos hc, List.append_nil]; exact HQ2.out⟩⟩
    | false =>
      have hc : ¬ f0.toList = sp.toList := beq_eq_false_iff_ne.1 hq
      have hns : ns = attrL xmlnsS f0 := by rw [HNS.out, if_neg hc]
      have HNS2 := Aside0.mk hns
      clear hns
      have hlx : (acc ++ ([60] ++ f1.data.toList) ++ attrL xmlnsS f0).length ≤ 100000000 := by
        rw [← HNS2.out]; have h1 := HL.out; rw [HPS.out] at h1; simp only [List.length_append, List.length_cons, List.length_nil] at h1 ⊢; omega
      have hcall := putW_attr xmlnsS f0 HQ2.out.p hlx
      go_wp2_with (fail)
      refine hcall.mono ?_
      rintro e w3 ⟨rfl, hp3, hk3⟩
      have HQ3 : Aside0 (PutQ w0 b g7 g6 gb #[.string f0, .string f1, .slice A2 n2 c2, .string f3, .slice A4 n4 c4] W (acc ++ ([60] ++ f1.data.toList) ++ ns) w3) := ⟨by rw [HNS2.out]; exact HQ2.out.step hp3 hk3⟩
      clear hp3 hk3 hcall hlx
      go_wp2_with (fail)
      go_meet
      case rel => exact ⟨rfl, HQ3⟩
  case rest =>
    obtain ⟨rfl, HQ⟩ := hcut
    generalize ha2 : acc ++ ([60] ++ f1.data.toList) ++ ns = acc2 at *
    have HA2 := Aside0.mk ha2
    clear ha2 HQ2 hcz2_0 hcz2_1 hcz2_2 hcz2_3 hcz2_4 h72 nn2
    have hcz3_0 : wc.cell? ⟨gb, 0, none⟩ = some (.string f0) := (blk_cell HQ.out.bx 0).trans rfl; have hcz3_1 : wc.cell? ⟨gb, 1, none⟩ = some (.string f1) := (blk_cell HQ.out.bx 1).trans rfl; have hcz3_2 : wc.cell? ⟨gb, 2, none⟩ = some (.slice A2 n2 c2) := (blk_cell HQ.out.bx 2).trans rfl; have hcz3_3 : wc.cell? ⟨gb, 3, none⟩ = some (.string f3) := (blk_cell HQ.out.bx 3).trans rfl; have hcz3_4 : wc.cell? ⟨gb, 4, none⟩ = some (.slice A4 n4 c4) := (blk_cell HQ.out.bx 4).trans rfl
    go_upto_block 0 with (fail)
    go_cut [5] (fun v wx => v = .pointer (some ⟨gb, 0, none⟩) ∧ Aside0 (PutQ w0 b g7 g6 gb #[.string f0, .string f1, .slice A2 n2 c2, .string f3, .slice A4 n4 c4] W (acc2 ++ attrsL f2) wx))
    case first =>
      go_wp2_with (fail)
      go_loopg [26] (n2 + 1) (fun gk i wr => ∃ j : Nat, n2 - j < gk ∧ j ≤ n2 ∧ i = .int .i64 j ∧ Aside0 (PutQ w0 b g7 g6 gb #[.string f0, .string f1, .slice A2 n2 c2, .string f3, .slice A4 n4 c4] W (acc2 ++ attrsL (f2.take j)) wr))
      case atStart => exact ⟨0, by omega, Nat.zero_le _, rfl, ⟨by rw [show attrsL (f2.take 0) = [] from rfl, List.append_nil]; exact HQ.out⟩⟩
      case round =>
        obtain ⟨j, hgk, hj, rfl, HR⟩ := hrel
        clear hcz3_0 hcz3_1 hcz3_2 hcz3_3 hcz3_4
        by_cases hlt : j < n2
        · have hd0 : decide ((j : Int) < (n2 : Int)) = true := decide_eq_true (by omega)
          obtain ⟨ad, e2, hx0, hx1⟩ := at_T51 HX2.out (j : Int) (by omega) (by have := HN2.out; omega)
          obtain ⟨x, hx⟩ : ∃ x, rd_T51 f2 (j : Int) = x := ⟨_, rfl⟩
          rw [hx, Int.toNat_natCast] at hx0 hx1
          cases e2
          replace hx0 := (HR.out.p.bel.cell (World.block_lt_of_cell? w0 _ hx0)).trans hx0
          replace hx1 := (HR.out.p.bel.cell (World.block_lt_of_cell? w0 _ hx1)).trans hx1
          have HXJ := Aside0.mk hx
          clear hx
          have h7r : ∀ o, (wr.alloc o).cell? ⟨g7, 0, none⟩ = some (.func (.func 17) #[] #[.pointer (some ⟨b, 0, none⟩)]) := fun o => (World.cell?_alloc_past o g7 0 (blk_lt HR.out.p.c7)).trans ((blk_cell HR.out.p.c7 0).trans rfl)
          have hb5 : ∀ o, Below wr.heap.size wr (wr.alloc o) := fun o => (Below.refl _ _).alloc (Nat.le_refl _) o
          have hst : f2[j]? = some x := by
            have := HXJ.out
            have hj2 : j < f2.length := by rw [HN2.out]; exact hlt
            rw [List.getElem?_eq_getElem hj2, ← this]
            simp [rd_T51, hj2]
          have hsn := flatMap_snoc (fun a : S51 => attrL a.f0 a.f1) f2 j x hst
          have htk := flatMap_take_le (fun a : S51 => attrL a.f0 a.f1) f2 (j + 1)
          have hlx : ((acc2 ++ attrsL (f2.take j)) ++ attrL x.f0 x.f1).length ≤ 100000000 := by
            have h1 := HL.out
            rw [hsn] at htk
            rw [HPS.out] at h1
            rw [← HA2.out]
            simp only [attrsL, List.length_append, List.length_cons, List.length_nil] at h1 htk ⊢
            omega
          have hcall := fun o => putW_attr x.f0 x.f1 (HR.out.p.below (hb5 o)) hlx
          have HSN := Aside0.mk hsn
          clear hsn htk hlx hst
          go_wp2_with (fail)
          refine (hcall _).mono ?_
          rintro e w3 ⟨rfl, hp3, hk3⟩
          have HQ3 : Aside0 (PutQ w0 b g7 g6 gb #[.string f0, .string f1, .slice (some ad) n2 c2, .string f3, .slice A4 n4 c4] W (acc2 ++ attrsL (f2.take (j + 1))) w3) := ⟨by
            have : acc2 ++ attrsL (f2.take (j + 1)) = acc2 ++ attrsL (f2.take j) ++ attrL x.f0 x.f1 := by rw [attrsL, HSN.out, List.append_assoc]; rfl
            rw [this]
            exact (HR.out.below (hb5 _)).step hp3 hk3⟩
          clear hp3 hk3 hcall h7r hb5 hx0 hx1
          go_wp2_with (fail)
          go_roundg (n2 - j)
          case measure => omega
          case rel => exact ⟨j + 1, by omega, by omega, rfl, HQ3⟩
        · have hd0 : decide ((j : Int) < (n2 : Int)) = false := decide_eq_false (by omega)
          have he : attrsL (f2.take j) = attrsL f2 := by rw [List.take_of_length_le (by rw [HN2.out]; omega)]
          have HR2 := HR.out
          rw [he] at HR2
          have HR3 := Aside0.mk HR2
          clear HR2 he
          go_wp2_with (fail)
          go_meet
          case rel => exact ⟨rfl, HR3⟩
    case rest =>
      obtain ⟨rfl, HE⟩ := hcut
      generalize ha3 : acc2 ++ attrsL f2 = acc3 at *
      have HA3 := Aside0.mk ha3
      clear ha3 HQ hcz3_0 hcz3_1 hcz3_2 hcz3_3 hcz3_4
      have hcz4_0 : wc.cell? ⟨gb, 0, none⟩ = some (.string f0) := (blk_cell HE.out.bx 0).trans rfl; have hcz4_1 : wc.cell? ⟨gb, 1, none⟩ = some (.string f1) := (blk_cell HE.out.bx 1).trans rfl; have hcz4_2 : wc.cell? ⟨gb, 2, none⟩ = some (.slice A2 n2 c2) := (blk_cell HE.out.bx 2).trans rfl; have hcz4_3 : wc.cell? ⟨gb, 3, none⟩ = some (.string f3) := (blk_cell HE.out.bx 3).trans rfl; have hcz4_4 : wc.cell? ⟨gb, 4, none⟩ = some (.slice A4 n4 c4) := (blk_cell HE.out.bx 4).trans rfl
      go_upto_region 9 with (fail)
      go_cut [5, 45] (fun v bb wx => v = .pointer (some ⟨gb, 0, none⟩) ∧ (∃ q : Bool, bb = .bool q ∧ Aside0 (q = decide (f3.toList = [] ∧ n4 = 0))) ∧ Aside0 (PutQ w0 b g7 g6 gb #[.string f0, .string f1, .slice A2 n2 c2, .string f3, .slice A4 n4 c4] W (acc3) wx))
      case first =>
        cases hq3 : (f3.toList == ([] : List UInt8)) with
        | true =>
          have hc3 : f3.toList = [] := beq_iff_eq.1 hq3
          by_cases h40 : n4 = 0
          · have HDD := Aside0.mk (decide_eq_true (p := f3.toList = [] ∧ n4 = 0) ⟨hc3, h40⟩)
            have hnb : ((n4 : Int) == 0) = true := by rw [h40]; rfl
            have hnc : decide ((n4 : Int) = 0) = true := decide_eq_true (by omega)
            clear h40 hc3
            go_wp2_with (fail)
            go_meet
            case rel => exact ⟨rfl, ⟨_, rfl, ⟨HDD.out.symm⟩⟩, HE⟩
          · have HDD := Aside0.mk (decide_eq_false (p := f3.toList = [] ∧ n4 = 0) (fun h => h40 h.2))
            have hnb : ((n4 : Int) == 0) = false := beq_eq_false_iff_ne.2 (by omega)
            have hnc : decide ((n4 : Int) = 0) = false := decide_eq_false (by omega)
            clear h40 hc3
            go_wp2_with (fail)
            go_meet
            case rel => exact ⟨rfl, ⟨_, rfl, ⟨HDD.out.symm⟩⟩, HE⟩
        | false =>
          have hc3 : ¬ f3.toList = [] := beq_eq_false_iff_ne.1 hq3
          have HDD := Aside0.mk (decide_eq_false (p := f3.toList = [] ∧ n4 = 0) (fun h => hc3 h.1))
          clear hc3
          go_wp2_with (fail)
          go_meet
          case rel => exact ⟨rfl, ⟨_, rfl, ⟨HDD.out.symm⟩⟩, HE⟩
      case rest =>
        obtain ⟨rfl, ⟨q, rfl, HQD⟩, HF⟩ := hcut
        clear HE hcz4_0 hcz4_1 hcz4_2 hcz4_3 hcz4_4
        have hcz5_0 : wc.cell? ⟨gb, 0, none⟩ = some (.string f0) := (blk_cell HF.out.bx 0).trans rfl; have hcz5_1 : wc.cell? ⟨gb, 1, none⟩ = some (.string f1) := (blk_cell HF.out.bx 1).trans rfl; have hcz5_2 : wc.cell? ⟨gb, 2, none⟩ = some (.slice A2 n2 c2) := (blk_cell HF.out.bx 2).trans rfl; have hcz5_3 : wc.cell? ⟨gb, 3, none⟩ = some (.string f3) := (blk_cell HF.out.bx 3).trans rfl; have hcz5_4 : wc.cell? ⟨gb, 4, none⟩ = some (.slice A4 n4 c4) := (blk_cell HF.out.bx 4).trans rfl
        cases q with
        | true =>
          have hcc : f3.toList = [] ∧ n4 = 0 := of_decide_eq_true HQD.out.symm
          have hPe : P = [60] ++ f1.data.toList ++ ns ++ attrsL f2 ++ [47, 62] := by rw [HPS.out, HN4.out, if_pos hcc]
          have hPf : acc ++ P = acc3 ++ [47, 62] := by
            rw [hPe, ← HA3.out, ← HA2.out]
            simp only [List.append_assoc]
          have hlx : (acc3 ++ [47, 62]).length ≤ 100000000 := by rw [← hPf]; exact HL.out
          have hcall := putW_string ⟨#[47, 62]⟩ HF.out.p rfl hlx
          have HPF := Aside0.mk hPf
          clear hcc hPe hPf hlx
          go_wp2_with (fail)
          refine hcall.mono ?_
          rintro e w6 ⟨n6, rfl, hp6, hk6⟩
          have HQ6 := Aside0.mk (HF.out.step hp6 hk6)
          clear hp6 hk6 hcall
          go_wp2_with (fail)
          refine bodyPost_ret (results_none rfl _ _ _) rfl ?_
          exact ⟨rfl, by rw [HPF.out]; exact HQ6.out.p, HQ6.out.k⟩
        | false =>
          have hcc : ¬ (f3.toList = [] ∧ n4 = 0) := of_decide_eq_false HQD.out.symm
          have hPe : P = [60] ++ f1.data.toList ++ ns ++ attrsL f2 ++ ([62] ++ quoteL f3.data.toList ++ kidsL k f4 f0 ++ [60, 47] ++ f1.data.toList ++ [62]) := by rw [HPS.out, HN4.out, if_neg hcc]
          have hPf : acc ++ P = acc3 ++ ([62] ++ quoteL f3.data.toList) ++ kidsL k f4 f0 ++ ([60, 47] ++ f1.data.toList ++ [62]) := by
            rw [hPe, ← HA3.out, ← HA2.out]
            simp only [List.append_assoc]
          have hll : (acc3 ++ ([62] ++ quoteL f3.data.toList) ++ kidsL k f4 f0 ++ ([60, 47] ++ f1.data.toList ++ [62])).length ≤ 100000000 := by rw [← hPf]; exact HL.out
          have HPF := Aside0.mk hPf
          have HLL := Aside0.mk hll
          clear hcc hPe hPf hll
          have kQ := fun w => quote_calls f3 w (by omega)
          go_wp2_with (fail)
          refine (kQ _).mono ?_
          rintro e w4 ⟨rfl, hb⟩
          have HQ4 : Aside0 (PutQ w0 b g7 g6 gb #[.string f0, .string f1, .slice A2 n2 c2, .string f3, .slice A4 n4 c4] W (acc3) w4) := ⟨HF.out.below hb⟩
          clear hb kQ hcz5_0 hcz5_1 hcz5_2 hcz5_3 hcz5_4 HF
          have hqd : (⟨#[62]⟩ ++ quoteS f3 : ByteArray).data.toList = [62] ++ quoteL f3.data.toList := by rw [data_append]; rfl
          have hqsz := hb3.2
          clear hb3
          generalize quoteS f3 = qs at *
          have HQD2 := Aside0.mk hqd
          clear hqd
          have hlx : (acc3 ++ ([62] ++ quoteL f3.data.toList)).length ≤ 100000000 := by
            have h1 := HLL.out
            simp only [List.length_append, List.length_cons, List.length_nil] at h1 ⊢
            omega
          have hcall := putW_string (⟨#[62]⟩ ++ qs) HQ4.out.p HQD2.out hlx
          clear hlx
          go_wp2_with (fail)
          refine hcall.mono ?_
          rintro e w5 ⟨n5, rfl, hp5, hk5⟩
          generalize ha4 : acc3 ++ ([62] ++ quoteL f3.data.toList) = acc4 at *
          have HA4 := Aside0.mk ha4
          have HQ5 : Aside0 (PutQ w0 b g7 g6 gb #[.string f0, .string f1, .slice A2 n2 c2, .string f3, .slice A4 n4 c4] W (acc4) w5) := ⟨HQ4.out.step hp5 hk5⟩
          clear hp5 hk5 hcall HQ4 ha4
          have hcz6_0 : w5.cell? ⟨gb, 0, none⟩ = some (.string f0) := (blk_cell HQ5.out.bx 0).trans rfl; have hcz6_1 : w5.cell? ⟨gb, 1, none⟩ = some (.string f1) := (blk_cell HQ5.out.bx 1).trans rfl; have hcz6_2 : w5.cell? ⟨gb, 2, none⟩ = some (.slice A2 n2 c2) := (blk_cell HQ5.out.bx 2).trans rfl; have hcz6_3 : w5.cell? ⟨gb, 3, none⟩ = some (.string f3) := (blk_cell HQ5.out.bx 3).trans rfl; have hcz6_4 : w5.cell? ⟨gb, 4, none⟩ = some (.slice A4 n4 c4) := (blk_cell HQ5.out.bx 4).trans rfl
          go_upto_block 2 with (fail)
          go_cut [5] (fun v wx => v = .pointer (some ⟨gb, 0, none⟩) ∧ Aside0 (PutQ w0 b g7 g6 gb #[.string f0, .string f1, .slice A2 n2 c2, .string f3, .slice A4 n4 c4] W (acc4 ++ kidsL k f4 f0) wx))
          case first =>
            go_wp2_with (fail)
            go_loopg [55] (n4 + 1) (fun gk i wr => ∃ j : Nat, n4 - j < gk ∧ j ≤ n4 ∧ i = .int .i64 j ∧ Aside0 (PutQ w0 b g7 g6 gb #[.string f0, .string f1, .slice A2 n2 c2, .string f3, .slice A4 n4 c4] W (acc4 ++ kidsL k (f4.take j) f0) wr))
            case atStart => exact ⟨0, by omega, Nat.zero_le _, rfl, ⟨by rw [show kidsL k (f4.take 0) f0 = [] from rfl, List.append_nil]; exact HQ5.out⟩⟩
            case round =>
              obtain ⟨j, hgk, hj, rfl, HR⟩ := hrel
              clear hcz6_0 hcz6_1 hcz6_2 hcz6_3 hcz6_4
              by_cases hlt : j < n4
              · have hd0 : decide ((j : Int) < (n4 : Int)) = true := decide_eq_true (by omega)
                obtain ⟨ad, B2, d2, B4, d4, e4, hx0, hx1, hx2, hx3, hx4, hl2, hg2, hl4, hg4⟩ := at_T25 HX4.out (j : Int) (by omega) (by have := HN4.out; omega)
                obtain ⟨x, hx⟩ : ∃ x, rd_T25 f4 (j : Int) = x := ⟨_, rfl⟩
                rw [hx, Int.toNat_natCast] at hx0 hx1 hx2 hx3 hx4
                rw [hx] at hl2 hg2 hl4 hg4
                cases e4
                replace hx0 := (HR.out.p.bel.cell (World.block_lt_of_cell? w0 _ hx0)).trans hx0
                replace hx1 := (HR.out.p.bel.cell (World.block_lt_of_cell? w0 _ hx1)).trans hx1
                replace hx2 := (HR.out.p.bel.cell (World.block_lt_of_cell? w0 _ hx2)).trans hx2
                replace hx3 := (HR.out.p.bel.cell (World.block_lt_of_cell? w0 _ hx3)).trans hx3
                replace hx4 := (HR.out.p.bel.cell (World.block_lt_of_cell? w0 _ hx4)).trans hx4
                have hcg : ∀ o, (wr.alloc o).cell? ⟨gb, 0, none⟩ = some (.string f0) := fun o => (World.cell?_alloc_past o gb 0 (blk_lt HR.out.bx)).trans ((blk_cell HR.out.bx 0).trans rfl)
                have h6r : ∀ o, (wr.alloc o).cell? ⟨g6, 0, none⟩ = some (.func (.func 19) #[] #[.pointer (some ⟨b, 0, none⟩), .pointer (some ⟨g7, 0, none⟩), .pointer (some ⟨g6, 0, none⟩)]) := fun o => (World.cell?_alloc_past o g6 0 (blk_lt HR.out.p.c6)).trans ((blk_cell HR.out.p.c6 0).trans rfl)
                have hb5 : ∀ o, Below wr.heap.size wr (wr.alloc o) := fun o => (Below.refl _ _).alloc (Nat.le_refl _) o
                have hj2 : j < f4.length := by rw [HN4.out]; exact hlt
                have hst : f4[j]? = some x := by
                  rw [List.getElem?_eq_getElem hj2, ← hx]
                  simp [rd_T25, hj2]
                have hdx : dOk k x := HD.out x (List.mem_of_getElem? hst)
                have hsn := flatMap_snoc (fun c : S25 => putL k c f0) f4 j x hst
                have htk := flatMap_take_le (fun c : S25 => putL k c f0) f4 (j + 1)
                have hlx : ((acc4 ++ kidsL k (f4.take j) f0) ++ putL k x f0).length ≤ 100000000 := by
                  have h1 := HLL.out
                  rw [hsn] at htk
                  simp only [kidsL, List.length_append, List.length_cons, List.length_nil] at h1 htk ⊢
                  omega
                have hcall := fun o => HIH.out x f0 B2 B4 d2 d4 _ _ (HR.out.p.below (hb5 o)) hdx hl2 hg2 hl4 hg4 hlx
                have HSN := Aside0.mk hsn
                clear hsn htk hlx hst hdx hj2 hl2 hg2 hl4 hg4 hx
                obtain ⟨m2, hm2⟩ : ∃ m, x.f2.length = m := ⟨_, rfl⟩
                obtain ⟨m4, hm4⟩ : ∃ m, x.f4.length = m := ⟨_, rfl⟩
                rw [hm2] at hx2 hcall
                rw [hm4] at hx4 hcall
                clear hm2 hm4
                go_wp2_with (fail)
                refine (hcall _).mono ?_
                rintro e w7 ⟨rfl, hp7, hk7⟩
                have HQ7 : Aside0 (PutQ w0 b g7 g6 gb #[.string f0, .string f1, .slice A2 n2 c2, .string f3, .slice (some ad) n4 c4] W (acc4 ++ kidsL k (f4.take (j + 1)) f0) w7) := ⟨by
                  have : acc4 ++ kidsL k (f4.take (j + 1)) f0 = acc4 ++ kidsL k (f4.take j) f0 ++ putL k x f0 := by rw [kidsL, HSN.out, List.append_assoc]; rfl
                  rw [this]
                  exact (HR.out.below (hb5 _)).step hp7 hk7⟩
                clear hp7 hk7 hcall h6r hcg hb5 hx0 hx1 hx2 hx3 hx4
                go_wp2_with (fail)
                go_roundg (n4 - j)
                case measure => omega
                case rel => exact ⟨j + 1, by omega, by omega, rfl, HQ7⟩
              · have hd0 : decide ((j : Int) < (n4 : Int)) = false := decide_eq_false (by omega)
                have he : kidsL k (f4.take j) f0 = kidsL k f4 f0 := by rw [List.take_of_length_le (by rw [HN4.out]; omega)]
                have HR2 := HR.out
                rw [he] at HR2
                have HR3 := Aside0.mk HR2
                clear HR2 he
                go_wp2_with (fail)
                go_meet
                case rel => exact ⟨rfl, HR3⟩
          case rest =>
            obtain ⟨rfl, HG⟩ := hcut
            clear hcz6_0 hcz6_1 hcz6_2 hcz6_3 hcz6_4
            have hcz7_0 : wc.cell? ⟨gb, 0, none⟩ = some (.string f0) := (blk_cell HG.out.bx 0).trans rfl; have hcz7_1 : wc.cell? ⟨gb, 1, none⟩ = some (.string f1) := (blk_cell HG.out.bx 1).trans rfl; have hcz7_2 : wc.cell? ⟨gb, 2, none⟩ = some (.slice A2 n2 c2) := (blk_cell HG.out.bx 2).trans rfl; have hcz7_3 : wc.cell? ⟨gb, 3, none⟩ = some (.string f3) := (blk_cell HG.out.bx 3).trans rfl; have hcz7_4 : wc.cell? ⟨gb, 4, none⟩ = some (.slice A4 n4 c4) := (blk_cell HG.out.bx 4).trans rfl
            have ht : (⟨#[60, 47]⟩ ++ f1 ++ ⟨#[62]⟩ : ByteArray).data.toList = [60, 47] ++ f1.data.toList ++ [62] := by simp only [data_append]
            have HLL2 : Aside0 ((acc4 ++ kidsL k f4 f0 ++ ([60, 47] ++ f1.data.toList ++ [62])).length ≤ 100000000) := HLL
            have hcall := putW_string (⟨#[60, 47]⟩ ++ f1 ++ ⟨#[62]⟩) HG.out.p ht HLL2.out
            go_wp2_with (fail)
            refine hcall.mono ?_
            rintro e w8 ⟨n8, rfl, hp8, hk8⟩
            have HQ8 := Aside0.mk (HG.out.step hp8 hk8)
            clear hp8 hk8 hcall ht
            go_wp2_with (fail)
            go_end0
            exact ⟨rfl, by rw [HPF.out]; exact HQ8.out.p, HQ8.out.k⟩
@[local go_sem] theorem run_store_funcv {P : Program} {w : World} {a : Addr} {m : Mode} (f : Fn) (ts : Array Value) (cs : Array Value) : (store a (.func f ts cs) m).run P w = stored P w a (.func f ts cs) m := run_store P w a _ m rfl
set_option maxHeartbeats 2000000 in
set_option maxRecDepth 1000000 in
theorem put_calls (k : Nat) (e : S25) (sp : ByteArray) (A2 A4 : Option Addr) (c2 c4 : Nat) (w : World) (hd : dOk k e)
    (hc2 : e.f2.length ≤ c2) (h2 : Kd.C k51 w A2 e.f2.length e.f2) (hc4 : e.f4.length ≤ c4) (h4 : Kd.C k25 w A4 e.f4.length e.f4) (hl : (putL k e sp).length ≤ 100000000) :
    Calls Try.prog 9 #[.agg #[.string e.f0, .string e.f1, .slice A2 e.f2.length c2, .string e.f3, .slice A4 e.f4.length c4], .string sp] w
      fun r W' => r = .returned (.string ⟨(putL k e sp).toArray⟩) ∧ Below w.heap.size w W' := by
  have kP := fun b g7 g6 W h => put2_calls w b g7 g6 k e sp A2 A4 c2 c4 [] W h hd hc2 h2 hc4 h4 hl
  obtain ⟨f0, f1, f2, f3, f4⟩ := e
  simp only at hc2 hc4 kP ⊢
  clear h2 h4 hd
  obtain ⟨n2, hn2⟩ : ∃ n, f2.length = n := ⟨_, rfl⟩
  obtain ⟨n4, hn4⟩ : ∃ n, f4.length = n := ⟨_, rfl⟩
  rw [hn2] at hc2 kP ⊢
  rw [hn4] at hc4 kP ⊢
  clear hn2 hn4
  generalize putL k ⟨f0, f1, f2, f3, f4⟩ sp = P at *
  have hu25 := Try.underlying25
  have KP := Aside0.mk kP
  clear kP
  go_enter Try.func9, Try.ntmps9
  go_upto_region 3 with (first
    | ((with_reducible refine gate_dst (N := 2) rfl ?_); refine box_event ?hg (N := 2) ?hd (cs := #[.string f0, .string f1, .slice A2 n2 c2, .string f3, .slice A4 n4 c4]) (t := 25) ?hr ?_; (case hd => rfl); (case hg => rfl); (case hr => first | (go_simp; done) | (go_simp; rfl)); intro gb hg w1 hbox hb; have HBX := Aside0.mk hbox; have HB1 := Aside0.mk hb; have hgb : gb < w1.heap.size := blk_lt hbox; have hsz1 := hb.size; clear hg hb hbox)
    | fail)
  obtain ⟨w3, hw3⟩ : ∃ w3, ((w1.alloc (Obj.cells #[Value.pointer none, Value.slice none 0 0] 43)).alloc (Obj.cells #[Value.nilFunc] 44)) = w3 := ⟨_, rfl⟩
  rw [hw3]
  have hs3 : w3.heap.size = w1.heap.size + 2 := by rw [← hw3, Deep.nblk_alloc, Deep.nblk_alloc]
  have hI3 : w3.heap[w1.heap.size]? = some (.cells #[.pointer none, .slice none 0 0] 43 (0, 0)) := by
    rw [← hw3]
    exact blk_alloc (blk_new w1 _) _
  have h63 : w3.heap[w1.heap.size + 1]? = some (.cells #[.nilFunc] 44 (0, 0)) := by rw [← hw3, ← Deep.nblk_alloc w1 (Obj.cells #[Value.pointer none, Value.slice none 0 0] 43)]; exact Deep.blk_alloc_new _ _
  have hB3 : Below w1.heap.size w1 w3 := by rw [← hw3]; exact ((Below.refl _ _).alloc (Nat.le_refl _) _).alloc (by rw [Deep.nblk_alloc]; omega) _
  have hbx3 : w3.heap[gb]? = some (.cells #[.string f0, .string f1, .slice A2 n2 c2, .string f3, .slice A4 n4 c4] 25 (0, 0)) := blk_below HBX.out hB3
  have HS3 := Aside0.mk hs3
  have HI3 := Aside0.mk hI3
  have H63 := Aside0.mk h63
  have HB3 := Aside0.mk hB3
  have HBX3 := Aside0.mk hbx3
  clear hw3 hs3 hI3 h63 hB3 hbx3
  have hc7 : (w3.alloc (Obj.cells #[Value.nilFunc] 49)).cell? ⟨w3.heap.size, 0, none⟩ = some .nilFunc := (blk_cell (Deep.blk_alloc_new _ _) 0).trans rfl
  have hf7 : (w3.alloc (Obj.cells #[Value.nilFunc] 49)).frozen? ⟨w3.heap.size, 0, none⟩ = false := blk_frozen (Deep.blk_alloc_new _ _) 0
  go_upto_region 4 with (fail)
  obtain ⟨w4, hw4⟩ : ∃ w4, (w3.alloc (Obj.cells #[Value.func (Fn.func 17) #[] #[Value.pointer (some { block := w1.heap.size, off := 0 })]] 49)) = w4 := ⟨_, rfl⟩
  rw [hw4]
  obtain ⟨g7, hg7⟩ : ∃ g, w3.heap.size = g := ⟨_, rfl⟩
  have hB34 : Below w3.heap.size w3 w4 := by rw [← hw4]; exact (Below.refl _ _).alloc (Nat.le_refl _) _
  have hI4 : w4.heap[w1.heap.size]? = some (.cells #[.pointer none, .slice none 0 0] 43 (0, 0)) := blk_below HI3.out hB34
  have h64 : w4.heap[w1.heap.size + 1]? = some (.cells #[.nilFunc] 44 (0, 0)) := blk_below H63.out hB34
  have h74 : w4.heap[g7]? = some (.cells #[.func (.func 17) #[] #[.pointer (some ⟨w1.heap.size, 0, none⟩)]] 49 (0, 0)) := by rw [← hw4, ← hg7]; exact Deep.blk_alloc_new _ _
  have hbx4 : w4.heap[gb]? = some (.cells #[.string f0, .string f1, .slice A2 n2 c2, .string f3, .slice A4 n4 c4] 25 (0, 0)) := blk_below HBX3.out hB34
  have hgs : g7 = w1.heap.size + 2 := by rw [← hg7]; exact HS3.out
  have HGS := Aside0.mk hgs
  have hBw4 : Below w.heap.size w w4 := (HB1.out.trans (HB3.out.mono hsz1)).trans (hB34.mono (by have := HB3.out.size; omega))
  have hne : g7 ≠ w1.heap.size + 1 := by omega
  have hnb7 : g7 ≠ w1.heap.size := by omega
  rw [hg7]
  have hc6 : w4.cell? ⟨w1.heap.size + 1, 0, none⟩ = some .nilFunc := (blk_cell h64 0).trans rfl
  have hf6 : w4.frozen? ⟨w1.heap.size + 1, 0, none⟩ = false := blk_frozen h64 0
  have HI4 := Aside0.mk hI4
  have H64 := Aside0.mk h64
  have H74 := Aside0.mk h74
  have HBX4 := Aside0.mk hbx4
  have HBW4 := Aside0.mk hBw4
  clear hI4 hB34 h64 h74 hbx4 hgs hBw4 hw4 hg7 hc7 hf7
  clear hsz1
  generalize hg6 : w1.heap.size + 1 = g6 at *
  generalize hb : w1.heap.size = b at *
  have hn6 : g6 ≠ b := by omega
  have hbw : w.heap.size ≤ b := by rw [← hb]; exact HB1.out.size
  go_upto_region 5 with (fail)
  obtain ⟨w5, hw5⟩ : ∃ w5, w4.setCell ⟨g6, 0, none⟩ (Value.func (Fn.func 19) #[] #[Value.pointer (some { block := b, off := 0 }), Value.pointer (some { block := g7, off := 0 }), Value.pointer (some { block := g6, off := 0 })]) = w5 := ⟨_, rfl⟩
  rw [hw5]
  have h65 : w5.heap[g6]? = some (.cells #[.func (.func 19) #[] #[.pointer (some ⟨b, 0, none⟩), .pointer (some ⟨g7, 0, none⟩), .pointer (some ⟨g6, 0, none⟩)]] 44 (0, 0)) := by rw [← hw5]; exact blk_put H64.out 0 _ rfl
  have h75 : w5.heap[g7]? = some (.cells #[.func (.func 17) #[] #[.pointer (some ⟨b, 0, none⟩)]] 49 (0, 0)) := by rw [← hw5]; exact blk_far H74.out (by exact hne) _
  have hgb6 : gb ≠ g6 := by omega
  have hbx5 : w5.heap[gb]? = some (.cells #[.string f0, .string f1, .slice A2 n2 c2, .string f3, .slice A4 n4 c4] 25 (0, 0)) := by rw [← hw5]; exact blk_far HBX4.out (by exact hgb6) _
  have hB5 : Below w.heap.size w w5 := by rw [← hw5]; exact below_set HBW4.out (by omega)
  have hb5 : w5.heap[b]? = some (.cells #[.pointer none, .slice none 0 0] 43 (0, 0)) := by rw [← hw5]; exact blk_far HI4.out (by exact Ne.symm hn6) _
  have h0 : Lib.IsBuilder 43 5 w.heap.size b [] w5 := Or.inl ⟨hbw, .slice none 0 0, hb5, World.ownsRow_nil _ _ _ _, by simp [Value.ownBlock]⟩
  have hI5 : IsB w.heap.size b [] w5 := Lib.IsBuilderF.of h0
  have HP := Aside0.mk (KP.out b g7 g6 w5 ⟨hI5, hB5, h75, h65, hnb7, hn6⟩)
  have hcz0 : w5.cell? ⟨gb, 0, none⟩ = some (.string f0) := (blk_cell hbx5 0).trans rfl
  have hcz1 : w5.cell? ⟨gb, 1, none⟩ = some (.string f1) := (blk_cell hbx5 1).trans rfl
  have hcz2 : w5.cell? ⟨gb, 2, none⟩ = some (.slice A2 n2 c2) := (blk_cell hbx5 2).trans rfl
  have hcz3 : w5.cell? ⟨gb, 3, none⟩ = some (.string f3) := (blk_cell hbx5 3).trans rfl
  have hcz4 : w5.cell? ⟨gb, 4, none⟩ = some (.slice A4 n4 c4) := (blk_cell hbx5 4).trans rfl
  have hc65 : w5.cell? ⟨g6, 0, none⟩ = some (.func (.func 19) #[] #[.pointer (some ⟨b, 0, none⟩), .pointer (some ⟨g7, 0, none⟩), .pointer (some ⟨g6, 0, none⟩)]) := (blk_cell h65 0).trans rfl
  clear h65 h75 hbx5 hB5 hI5 hw5 hc6 hf6 h0 hb5
  go_wp2_with (fail)
  refine HP.out.mono ?_
  rintro e w6 ⟨rfl, hp, hk⟩
  have HP6 := Aside0.mk hp
  clear hp hk HP KP
  have kS := Try.Builder_String_any_k w.heap.size b P w6 HP6.out.isb HP6.out.bel.size
  go_wp2_with (fail)
  refine kS.mono ?_
  (first | rintro e W1 rfl h0 b1 k1 | rintro e W1 ⟨rfl, h0, b1, k1⟩)
  go_wp2_with (fail)
  go_ret
  exact ⟨rfl, HP6.out.bel.trans b1⟩
/-- whether this is the kid that is looked for -/
def kidP (sp nm : ByteArray) (x : S25) : Bool := (x.f0.toList == sp.toList) && (x.f1.toList == nm.toList)
set_option maxHeartbeats 1000000 in
set_option maxRecDepth 100000 in
theorem kidP_calls (x : S25) (v2 v4 : Value) (hv2 : v2.oneCell' = true) (hv4 : v4.oneCell' = true) (g4 g5 : Nat) (sp nm : ByteArray) (w : World) (h4 : w.cell? ⟨g4, 0, none⟩ = some (.string sp)) (h5 : w.cell? ⟨g5, 0, none⟩ = some (.string nm)) (A2 A4 : Option Addr) (n2 c2 n4 c4 : Nat) :
    Calls Try.prog 31 #[.agg #[.string x.f0, .string x.f1, .slice A2 n2 c2, .string x.f3, .slice A4 n4 c4], .pointer (some ⟨g4, 0, none⟩), .pointer (some ⟨g5, 0, none⟩)] w fun e w' => e = .returned (.bool (kidP sp nm x)) ∧ Below w.heap.size w w' := by
  have hl4 : g4 < w.heap.size := World.block_lt_of_cell? w _ h4
  have hl5 : g5 < w.heap.size := World.block_lt_of_cell? w _ h5
  have HX4 := Aside0.mk h4
  have HX5 := Aside0.mk h5
  have hp : kidP sp nm x = ((x.f0.toList == sp.toList) && (x.f1.toList == nm.toList)) := rfl
  rw [hp]
  clear h4 h5 hp
  obtain ⟨f0, f1, f2, f3, f4⟩ := x
  simp only
  have hu25 := Try.underlying25
  go_enter Try.func31, Try.ntmps31
  go_upto_region 1 with (first
    | ((with_reducible refine gate_dst (N := 3) rfl ?_); refine box_event ?hg (N := 3) ?hd (cs := #[.string f0, .string f1, .slice A2 n2 c2, .string f3, .slice A4 n4 c4]) (t := 25) ?hr ?_; (case hd => rfl); (case hg => rfl); (case hr => first | (go_simp; done) | (go_simp; rfl)); intro gb hg w1 hbox hb; have HBX := Aside0.mk hbox; have HB1 := Aside0.mk hb; clear hg hb hbox)
    | fail)
  have hcz0 : w1.cell? ⟨gb, 0, none⟩ = some (.string f0) := (blk_cell HBX.out 0).trans rfl
  have hcz1 : w1.cell? ⟨gb, 1, none⟩ = some (.string f1) := (blk_cell HBX.out 1).trans rfl
  have hc4 : w1.cell? ⟨g4, 0, none⟩ = some (.string sp) := (HB1.out.cell hl4).trans HX4.out
  have hc5 : w1.cell? ⟨g5, 0, none⟩ = some (.string nm) := (HB1.out.cell hl5).trans HX5.out
  cases h0 : (f0.toList == sp.toList) with
  | true =>
    go_wp2_with (fail)
    go_ret
    refine ⟨?_, HB1.out⟩
    first | rfl | (simp; done) | (simp [h0]; done) | (cases h1 : (f1.toList == nm.toList) <;> simp_all)
  | false =>
    go_wp2_with (fail)
    go_ret
    refine ⟨?_, HB1.out⟩
    first | rfl | (simp; done) | (simp [h0]; done) | (cases h1 : (f1.toList == nm.toList) <;> simp_all)
/-- the first of which p says so -/
def elIdx (l : List S25) (p : S25 → Bool) : Nat := l.findIdx p
def elIx (l : List S25) (p : S25 → Bool) : Int := if elIdx l p < l.length then (elIdx l p : Int) else -1
theorem elIdx_at {l : List S25} {p : S25 → Bool} {k : Nat} (h : ∀ j, (hj : j < k) → (hl : j < l.length) → p (l[j]) = false) (hk : k < l.length) (hp : p (l[k]) = true) : elIdx l p = k := by
  unfold elIdx
  rw [List.findIdx_eq hk]
  exact ⟨hp, fun j hj => by simpa using h j hj (by omega)⟩
theorem elIdx_none {l : List S25} {p : S25 → Bool} (h : ∀ j, (hl : j < l.length) → p (l[j]) = false) : elIdx l p = l.length := by
  unfold elIdx
  rw [List.findIdx_eq_length]
  intro x hx
  obtain ⟨j, hj, rfl⟩ := List.getElem_of_mem hx
  exact h j hj
set_option maxRecDepth 100000 in
set_option maxHeartbeats 1000000 in
theorem findKid_calls (g4 g5 : Nat) (sp nm : ByteArray) (A : Option Addr) (c : Nat) (l : List S25) (w : World) (hr : Kd.C k25 w A l.length l) (hl : l.length ≤ 100000000) (h4 : w.cell? ⟨g4, 0, none⟩ = some (.string sp)) (h5 : w.cell? ⟨g5, 0, none⟩ = some (.string nm)) :
    Calls Try.prog 30 #[.slice A l.length c, .func (.func 31) #[] #[.pointer (some ⟨g4, 0, none⟩), .pointer (some ⟨g5, 0, none⟩)]] w fun e w' => e = .returned (.int .i64 (elIx l (kidP sp nm))) ∧ Below w.heap.size w w' := by
  have HG4 := Aside0.mk h4
  have HG5 := Aside0.mk h5
  have HR := Aside0.mk hr
  obtain ⟨p, hp⟩ : ∃ p, kidP sp nm = p := ⟨_, rfl⟩
  rw [hp]
  have HPP := Aside0.mk hp
  obtain ⟨n, hn⟩ : ∃ n, l.length = n := ⟨_, rfl⟩
  have HN := Aside0.mk hn
  rw [hn] at hl ⊢
  clear h4 h5 hr hn hp
  go_enter Try.func30, Try.ntmps30
  go_wp2
  go_loopg [8] (n + 1) (fun gk i wr => ∃ k : Nat, n - k < gk ∧ k ≤ n ∧ i = .int .i64 k ∧ Aside0 ((∀ j, (hj : j < k) → (hl : j < l.length) → p (l[j]) = false) ∧ Below w.heap.size w wr))
  case atStart => exact ⟨0, by omega, Nat.zero_le _, rfl, ⟨fun j hj => absurd hj (Nat.not_lt_zero j), Below.refl _ _⟩⟩
  case round =>
    obtain ⟨k, hgk, hk, rfl, HH⟩ := hrel
    by_cases hlt : k < n
    · have hkl : k < l.length := by rw [HN.out]; exact hlt
      have hd0 : decide ((k : Int) < (n : Int)) = true := decide_eq_true (by omega)
      obtain ⟨ad, B2, d2, B4, d4, e4, hx0, hx1, hx2, hx3, hx4, hl2, hg2, hl4, hg4⟩ := at_T25 HR.out (k : Int) (by omega) (by have := HN.out; omega)
      obtain ⟨x, hx⟩ : ∃ x, rd_T25 l (k : Int) = x := ⟨_, rfl⟩
      rw [hx, Int.toNat_natCast] at hx0 hx1 hx2 hx3 hx4
      cases e4
      replace hx0 := (HH.out.2.cell (World.block_lt_of_cell? w _ hx0)).trans hx0
      replace hx1 := (HH.out.2.cell (World.block_lt_of_cell? w _ hx1)).trans hx1
      replace hx2 := (HH.out.2.cell (World.block_lt_of_cell? w _ hx2)).trans hx2
      replace hx3 := (HH.out.2.cell (World.block_lt_of_cell? w _ hx3)).trans hx3
      replace hx4 := (HH.out.2.cell (World.block_lt_of_cell? w _ hx4)).trans hx4
      have hXe : l[k] = x := by rw [← hx]; simp [rd_T25, hkl]
      have HX := Aside0.mk hXe
      have hc4 : wr.cell? ⟨g4, 0, none⟩ = some (.string sp) := (HH.out.2.cell (World.block_lt_of_cell? w _ HG4.out)).trans HG4.out
      have hc5 : wr.cell? ⟨g5, 0, none⟩ = some (.string nm) := (HH.out.2.cell (World.block_lt_of_cell? w _ HG5.out)).trans HG5.out
      have hP := kidP_calls x (.slice B2 0 0) (.slice B4 0 0) rfl rfl g4 g5 sp nm wr hc4 hc5 B2 B4 x.f2.length d2 x.f4.length d4
      rw [HPP.out] at hP
      clear hXe hx hl2 hg2 hl4 hg4 hc4 hc5
      obtain ⟨m2, hm2⟩ : ∃ m, x.f2.length = m := ⟨_, rfl⟩
      obtain ⟨m4, hm4⟩ : ∃ m, x.f4.length = m := ⟨_, rfl⟩
      rw [hm2] at hx2 hP
      rw [hm4] at hx4 hP
      clear hm2 hm4
      cases hb : p x with
      | true =>
        rw [hb] at hP
        have hz : elIx l p = k := by unfold elIx; rw [elIdx_at HH.out.1 hkl (by rw [HX.out]; exact hb), if_pos hkl]
        have HZ := Aside0.mk hz
        clear hz hb
        go_wp2_with (fail)
        refine hP.mono ?_
        rintro e w1 ⟨rfl, hb1⟩
        go_wp2_with (fail)
        go_ret
        rw [HZ.out]
        exact ⟨rfl, below_step HH.out.2 hb1⟩
      | false =>
        rw [hb] at hP
        have hno : ∀ j, (hj : j < k + 1) → (hl : j < l.length) → p (l[j]) = false := by
          intro j hj hl
          by_cases hjk : j < k
          · exact HH.out.1 j hjk hl
          · obtain rfl : j = k := by omega
            rw [HX.out]; exact hb
        have HNO := Aside0.mk hno
        clear hb hno
        go_wp2_with (fail)
        refine hP.mono ?_
        rintro e w1 ⟨rfl, hb1⟩
        go_wp2_with (fail)
        go_roundg (n - k)
        case measure => omega
        case rel => exact ⟨k + 1, by omega, by omega, rfl, ⟨HNO.out, below_step HH.out.2 hb1⟩⟩
    · have hd0 : decide ((k : Int) < (n : Int)) = false := decide_eq_false (by omega)
      have hz : elIx l p = -1 := by
        unfold elIx
        rw [elIdx_none (l := l) (p := p) (fun j hl => HH.out.1 j (by have := HN.out; omega) hl), if_neg (by omega)]
      have HZ := Aside0.mk hz
      clear hz
      go_wp2
      go_ret
      rw [HZ.out]
      exact ⟨rfl, HH.out.2⟩
/-- what Kid returns: nothing found, or the element's cells as they lie in memory -/
def KidIs (w : World) (l : List S25) (p : S25 → Bool) (cs : Array Value) (ok : Bool) : Prop :=
  (elIdx l p < l.length ∧ ok = true ∧ ∃ x, l[elIdx l p]? = some x ∧ k25.K w x cs.toList) ∨ (¬ elIdx l p < l.length ∧ ok = false ∧ cs = #[.string ⟨#[]⟩, .string ⟨#[]⟩, .slice none 0 0, .string ⟨#[]⟩, .slice none 0 0])
theorem info25 : (Try.prog.info? 25).map (·.size) = some 5 := by kernel_rfl
theorem below_five {w W : World} {g : Nat} (h : Below w.heap.size w W) (hg : w.heap.size ≤ g) (a0 a1 a2 a3 a4 : Value) : Below w.heap.size w (((((W.setCell ⟨g, 0, none⟩ a0).setCell ⟨g, 1, none⟩ a1).setCell ⟨g, 2, none⟩ a2).setCell ⟨g, 3, none⟩ a3).setCell ⟨g, 4, none⟩ a4) :=
  below_set (below_set (below_set (below_set (below_set h hg) hg) hg) hg) hg
theorem blk_five {W : World} {g : Nat} {t : TypeId} {b0 b1 b2 b3 b4 : Value} (h : W.heap[g]? = some (.cells #[b0, b1, b2, b3, b4] t (0, 0))) (a0 a1 a2 a3 a4 : Value) : (((((W.setCell ⟨g, 0, none⟩ a0).setCell ⟨g, 1, none⟩ a1).setCell ⟨g, 2, none⟩ a2).setCell ⟨g, 3, none⟩ a3).setCell ⟨g, 4, none⟩ a4).heap[g]? = some (.cells #[a0, a1, a2, a3, a4] t (0, 0)) :=
  blk_put (blk_put (blk_put (blk_put (blk_put h 0 _ rfl) 1 _ rfl) 2 _ rfl) 3 _ rfl) 4 _ rfl
set_option maxRecDepth 100000 in
set_option maxHeartbeats 2000000 in
theorem kid_calls (e : S25) (sp nm : ByteArray) (A2 A4 : Option Addr) (c2 c4 : Nat) (w : World) (hc4 : e.f4.length ≤ c4) (h4 : Kd.C k25 w A4 e.f4.length e.f4) (hl : e.f4.length ≤ 100000000) :
    Calls Try.prog 15 #[.agg #[.string e.f0, .string e.f1, .slice A2 e.f2.length c2, .string e.f3, .slice A4 e.f4.length c4], .string sp, .string nm] w
      fun r w' => ∃ cs ok, r = .returned (.tuple #[.agg cs, .bool ok]) ∧ KidIs w e.f4 (kidP sp nm) cs ok ∧ Below w.heap.size w w' := by
  obtain ⟨f0, f1, f2, f3, f4⟩ := e
  simp only at hc4 h4 hl ⊢
  have HX4 := Aside0.mk h4
  have hfind := fun g4 g5 W hb h1 h2 => findKid_calls g4 g5 sp nm A4 c4 f4 W (Kd.C_below h4 hb) hl h1 h2
  obtain ⟨p, hp⟩ : ∃ p, kidP sp nm = p := ⟨_, rfl⟩
  rw [hp] at hfind ⊢
  obtain ⟨z, hz⟩ : ∃ z, elIx f4 p = z := ⟨_, rfl⟩
  rw [hz] at hfind
  have HF := Aside0.mk hfind
  have HZ := Aside0.mk hz
  obtain ⟨n2, hn2⟩ : ∃ n, f2.length = n := ⟨_, rfl⟩
  obtain ⟨n4, hn4⟩ : ∃ n, f4.length = n := ⟨_, rfl⟩
  have HN4 := Aside0.mk hn4
  have HG : Aside0 (∀ r w', (∃ cs ok, r = Ending.returned (.tuple #[.agg cs, .bool ok]) ∧ KidIs w f4 p cs ok ∧ Below w.heap.size w w') → (∃ cs ok, r = Ending.returned (.tuple #[.agg cs, .bool ok]) ∧ KidIs w f4 p cs ok ∧ Below w.heap.size w w')) := ⟨fun _ _ h => h⟩
  rw [hn2, hn4]
  rw [hn4] at hc4 hl
  clear h4 hfind hz hn2 hn4 hp
  have hu25 := Try.underlying25
  go_enter Try.func15, Try.ntmps15
  go_upto_region 1 with (first
    | ((with_reducible refine gate_dst (N := 3) rfl ?_); refine box_event ?hg (N := 3) ?hd (cs := #[.string f0, .string f1, .slice A2 n2 c2, .string f3, .slice A4 n4 c4]) (t := 25) ?hr ?_; (case hd => rfl); (case hg => rfl); (case hr => first | (go_simp; done) | (go_simp; rfl)); intro gb hg w1 hbox hb; have HBX := Aside0.mk hbox; have HB1 := Aside0.mk hb; have hsz1 := hb.size; have hgb := blk_lt hbox; clear hg hb hbox)
    | fail)
  obtain ⟨w3, hw3⟩ : ∃ w3, (((w1.alloc (Obj.cells #[Value.string sp] 9)).alloc (Obj.cells #[Value.string nm] 9)).alloc (Obj.cells #[Value.string { data := #[] }, Value.string { data := #[] }, Value.slice none 0 0, Value.string { data := #[] }, Value.slice none 0 0] 25)) = w3 := ⟨_, rfl⟩
  rw [hw3]
  have hB3 : Below w1.heap.size w1 w3 := by rw [← hw3]; exact (((Below.refl _ _).alloc (Nat.le_refl _) _).alloc (by rw [Deep.nblk_alloc]; omega) _).alloc (by rw [Deep.nblk_alloc, Deep.nblk_alloc]; omega) _
  have h43 : w3.heap[w1.heap.size]? = some (.cells #[.string sp] 9 (0, 0)) := by rw [← hw3]; exact blk_alloc (blk_alloc (blk_new w1 _) _) _
  have h53 : w3.heap[w1.heap.size + 1]? = some (.cells #[.string nm] 9 (0, 0)) := by rw [← hw3, ← Deep.nblk_alloc w1 (Obj.cells #[Value.string sp] 9)]; exact blk_alloc (blk_new _ _) _
  have h63 : w3.heap[w1.heap.size + 1 + 1]? = some (.cells #[.string ⟨#[]⟩, .string ⟨#[]⟩, .slice none 0 0, .string ⟨#[]⟩, .slice none 0 0] 25 (0, 0)) := by rw [← hw3, ← Deep.nblk_alloc w1 (Obj.cells #[Value.string sp] 9), ← Deep.nblk_alloc (w1.alloc (Obj.cells #[Value.string sp] 9)) (Obj.cells #[Value.string nm] 9)]; exact blk_new _ _
  have hbx3 := blk_below HBX.out hB3
  have hBw3 : Below w.heap.size w w3 := HB1.out.trans (hB3.mono hsz1)
  generalize hg6 : w1.heap.size + 1 + 1 = g6 at *
  generalize hg5 : w1.heap.size + 1 = g5 at *
  generalize hg4 : w1.heap.size = g4 at *
  have hw6 : w.heap.size ≤ g6 := by omega
  have hcz4 : w3.cell? ⟨gb, 4, none⟩ = some (.slice A4 n4 c4) := (blk_cell hbx3 4).trans rfl
  have hcall := HF.out g4 g5 w3 hBw3 ((blk_cell h43 0).trans rfl) ((blk_cell h53 0).trans rfl)
  rw [HN4.out] at hcall
  have H63 := Aside0.mk h63
  have HBX3 := Aside0.mk hbx3
  have HBW3 := Aside0.mk hBw3
  clear hw3 h43 h53 h63 hbx3 hBw3 hB3 HF
  go_wp2_with (fail)
  refine hcall.mono ?_
  rintro e w4 ⟨rfl, hb4⟩
  have H64 := Aside0.mk (blk_below H63.out hb4)
  have HBX4 := Aside0.mk (blk_below HBX3.out hb4)
  have HBW4 := Aside0.mk (below_step HBW3.out hb4)
  clear hb4 hcall hcz4
  by_cases hlt : elIdx f4 p < n4
  · have hlt2 : elIdx f4 p < f4.length := by rw [HN4.out]; exact hlt
    obtain ⟨k, hk⟩ : ∃ k, elIdx f4 p = k := ⟨_, rfl⟩
    have hz : z = (k : Int) := by rw [← HZ.out, ← hk]; unfold elIx; rw [if_pos hlt2]
    subst hz
    rw [hk] at hlt hlt2
    have HK := Aside0.mk hk
    obtain ⟨ad, B2, d2, B4, d4, e4, hx0, hx1, hx2, hx3, hx4, hl2, hg2, hl4, hg4'⟩ := at_T25 HX4.out (k : Int) (by omega) (by omega)
    obtain ⟨x, hx⟩ : ∃ x, rd_T25 f4 (k : Int) = x := ⟨_, rfl⟩
    rw [hx, Int.toNat_natCast] at hx0 hx1 hx2 hx3 hx4
    rw [hx] at hl2 hg2 hl4 hg4'
    cases e4
    replace hx0 := (HBW4.out.cell (World.block_lt_of_cell? w _ hx0)).trans hx0
    replace hx1 := (HBW4.out.cell (World.block_lt_of_cell? w _ hx1)).trans hx1
    replace hx2 := (HBW4.out.cell (World.block_lt_of_cell? w _ hx2)).trans hx2
    replace hx3 := (HBW4.out.cell (World.block_lt_of_cell? w _ hx3)).trans hx3
    replace hx4 := (HBW4.out.cell (World.block_lt_of_cell? w _ hx4)).trans hx4
    have hXe : f4[k]? = some x := by rw [List.getElem?_eq_getElem hlt2, ← hx]; simp [rd_T25, hlt2]
    have HK25 := Aside0.mk (k25_mk w x hl2 hg2 hl4 hg4')
    have HXE := Aside0.mk hXe
    have hcz4 : w4.cell? ⟨gb, 4, none⟩ = some (.slice (some ad) n4 c4) := (blk_cell HBX4.out 4).trans rfl
    clear hx hk hXe hl2 hg2 hl4 hg4'
    obtain ⟨m2, hm2⟩ : ∃ m, x.f2.length = m := ⟨_, rfl⟩
    obtain ⟨m4, hm4⟩ : ∃ m, x.f4.length = m := ⟨_, rfl⟩
    rw [hm2] at hx2 HK25
    rw [hm4] at hx4 HK25
    clear hm2 hm4
    have hd0 : decide ((k : Int) < 0) = false := decide_eq_false (by omega)
    have hd1 : decide ((k : Int) < (n4 : Int)) = true := decide_eq_true (by omega)
    have hc60 : w4.cell? ⟨g6, 0, none⟩ = some (.string ⟨#[]⟩) := (blk_cell H64.out 0).trans rfl
    have hf60 : w4.frozen? ⟨g6, 0, none⟩ = false := blk_frozen H64.out 0
    have hc61 : w4.cell? ⟨g6, 1, none⟩ = some (.string ⟨#[]⟩) := (blk_cell H64.out 1).trans rfl
    have hf61 : w4.frozen? ⟨g6, 1, none⟩ = false := blk_frozen H64.out 1
    have hc62 : w4.cell? ⟨g6, 2, none⟩ = some (.slice none 0 0) := (blk_cell H64.out 2).trans rfl
    have hf62 : w4.frozen? ⟨g6, 2, none⟩ = false := blk_frozen H64.out 2
    have hc63 : w4.cell? ⟨g6, 3, none⟩ = some (.string ⟨#[]⟩) := (blk_cell H64.out 3).trans rfl
    have hf63 : w4.frozen? ⟨g6, 3, none⟩ = false := blk_frozen H64.out 3
    have hc64 : w4.cell? ⟨g6, 4, none⟩ = some (.slice none 0 0) := (blk_cell H64.out 4).trans rfl
    have hf64 : w4.frozen? ⟨g6, 4, none⟩ = false := blk_frozen H64.out 4
    go_wp2_with (fail)
    refine bodyPost_ret (results_ct rfl _ _ g6 25 _ (0, 0) _ rfl (blk_five H64.out _ _ _ _ _) hu25 rfl info25) rfl ?_
    exact ⟨_, true, rfl, Or.inl ⟨by rw [HK.out]; exact hlt2, rfl, x, by rw [HK.out]; exact HXE.out, HK25.out⟩, below_five HBW4.out hw6 _ _ _ _ _⟩
  · have hz : z = -1 := by rw [← HZ.out]; unfold elIx; rw [if_neg (by rw [HN4.out]; exact hlt)]
    subst hz
    have hc60 : w4.cell? ⟨g6, 0, none⟩ = some (.string ⟨#[]⟩) := (blk_cell H64.out 0).trans rfl
    have hf60 : w4.frozen? ⟨g6, 0, none⟩ = false := blk_frozen H64.out 0
    have hc61 : w4.cell? ⟨g6, 1, none⟩ = some (.string ⟨#[]⟩) := (blk_cell H64.out 1).trans rfl
    have hf61 : w4.frozen? ⟨g6, 1, none⟩ = false := blk_frozen H64.out 1
    have hc62 : w4.cell? ⟨g6, 2, none⟩ = some (.slice none 0 0) := (blk_cell H64.out 2).trans rfl
    have hf62 : w4.frozen? ⟨g6, 2, none⟩ = false := blk_frozen H64.out 2
    have hc63 : w4.cell? ⟨g6, 3, none⟩ = some (.string ⟨#[]⟩) := (blk_cell H64.out 3).trans rfl
    have hf63 : w4.frozen? ⟨g6, 3, none⟩ = false := blk_frozen H64.out 3
    have hc64 : w4.cell? ⟨g6, 4, none⟩ = some (.slice none 0 0) := (blk_cell H64.out 4).trans rfl
    have hf64 : w4.frozen? ⟨g6, 4, none⟩ = false := blk_frozen H64.out 4
    go_wp2_with (fail)
    refine bodyPost_ret (results_ct rfl _ _ g6 25 _ (0, 0) _ rfl (blk_five H64.out _ _ _ _ _) hu25 rfl info25) rfl ?_
    exact ⟨_, false, rfl, Or.inr ⟨by rw [HN4.out]; exact hlt, rfl, rfl⟩, below_five HBW4.out hw6 _ _ _ _ _⟩
/-- no part of it is too large for a machine -/
def eOk : Nat → S25 → Prop
  | 0, _ => True
  | k + 1, e => (e.f0.size ≤ 100000000 ∧ e.f1.size ≤ 100000000 ∧ e.f3.size ≤ 100000000 ∧ e.f2.length ≤ 100000000 ∧ e.f4.length ≤ 100000000) ∧ (∀ x ∈ e.f2, x.f0.size ≤ 100000000 ∧ x.f1.size ≤ 100000000) ∧ ∀ x ∈ e.f4, eOk k x
def attrEq (a b : S51) : Bool := (a.f0.toList == b.f0.toList) && (a.f1.toList == b.f1.toList)
def listEq {α : Type} (p : α → α → Bool) : List α → List α → Bool
  | [], [] => true
  | a :: l, b :: m => p a b && listEq p l m
  | _, _ => false
def sameF : Nat → S25 → S25 → Bool
  | 0, _, _ => false
  | k + 1, a, b => (a.f0.toList == b.f0.toList) && (a.f1.toList == b.f1.toList) && (a.f3.toList == b.f3.toList) && listEq attrEq a.f2 b.f2 && listEq (sameF k) a.f4 b.f4
theorem listEq_length {α : Type} (p : α → α → Bool) : ∀ (l m : List α), l.length ≠ m.length → listEq p l m = false
  | [], [], h => absurd rfl h
  | _ :: _, [], _ => rfl
  | [], _ :: _, _ => rfl
  | a :: l, b :: m, h => by
    simp only [listEq, listEq_length p l m (by simpa using h), Bool.and_false]
theorem api_Attr_l0 (x0 x1 : List S51) (hb : x0.length ≤ 1000000000) (he : x0.length = x1.length) : ∀ (k j : Nat), j ≤ x0.length → x0.length - j < k → api_Attr.l0 k x0 x1 (x0.length : Int) (j : Int) = some (listEq attrEq (x0.drop j) (x1.drop j)) := by
  intro k
  induction k with
  | zero => intro j _ h; omega
  | succ k ih =>
    intro j hj hk
    unfold api_Attr.l0
    by_cases hlt : j < x0.length
    · have h1 : j < x1.length := by omega
      rw [if_pos (by omega), if_pos (by omega), if_pos (by omega), if_pos (by omega)]
      rw [List.drop_eq_getElem_cons hlt, List.drop_eq_getElem_cons h1]
      have r0 : rd_T51 x0 (j : Int) = x0[j] := by simp [rd_T51, hlt]
      have r1 : rd_T51 x1 (j : Int) = x1[j] := by simp [rd_T51, h1]
      rw [r0, r1]
      have hw : wrap64 ((j : Int) + 1) = ((j + 1 : Nat) : Int) := by
        unfold wrap64
        omega
      rw [hw, ih (j + 1) (by omega) (by omega)]
      simp only [listEq, attrEq]
      cases (x0[j].f0.toList == x1[j].f0.toList) <;> cases (x0[j].f1.toList == x1[j].f1.toList) <;> simp
    · rw [if_neg (by omega), List.drop_eq_nil_of_le (by omega), List.drop_eq_nil_of_le (by omega)]
      rfl
theorem api_Attr_f (x0 x1 : List S51) (hb : x0.length ≤ 1000000000) : api_Attr.f (x0.length + 1) x0 x1 = some (listEq attrEq x0 x1) := by
  unfold api_Attr.f
  by_cases he : x0.length = x1.length
  · rw [if_pos (by omega)]
    have := api_Attr_l0 x0 x1 hb he (x0.length + 1) 0 (by omega) (by omega)
    simpa using this
  · rw [if_neg (by omega), listEq_length _ _ _ he]
theorem listEq_at {α : Type} (p : α → α → Bool) {l m : List α} (j : Nat) (h0 : j < l.length) (h1 : j < m.length) : listEq p (l.drop j) (m.drop j) = (p l[j] m[j] && listEq p (l.drop (j + 1)) (m.drop (j + 1))) := by
  rw [List.drop_eq_getElem_cons h0, List.drop_eq_getElem_cons h1]
  rfl
set_option maxRecDepth 100000 in
set_option maxHeartbeats 2000000 in
theorem eqf_calls (k : Nat) (hS : ∀ (a b : S25) (A2 A4 B2 B4 : Option Addr) (c2 c4 d2 d4 : Nat) (W : World), dOk k a → a.f2.length ≤ c2 → Kd.C k51 W A2 a.f2.length a.f2 → a.f4.length ≤ c4 → Kd.C k25 W A4 a.f4.length a.f4 →
      b.f2.length ≤ d2 → Kd.C k51 W B2 b.f2.length b.f2 → b.f4.length ≤ d4 → Kd.C k25 W B4 b.f4.length b.f4 → eOk k a →
      Calls Try.prog 10 #[.agg #[.string a.f0, .string a.f1, .slice A2 a.f2.length c2, .string a.f3, .slice A4 a.f4.length c4], .agg #[.string b.f0, .string b.f1, .slice B2 b.f2.length d2, .string b.f3, .slice B4 b.f4.length d4]] W
        fun r W' => r = .returned (.bool (sameF k a b)) ∧ Below W.heap.size W W')
    (l m : List S25) (A B : Option Addr) (c d : Nat) (w : World) (hl : Kd.C k25 w A l.length l) (hm : Kd.C k25 w B m.length m) (hd : ∀ x ∈ l, dOk k x) (hn : l.length ≤ 100000000) (hw : ∀ x ∈ l, eOk k x) :
    Calls Try.prog 22 #[.slice A l.length c, .slice B m.length d, .func (.func 10) #[] #[]] w fun e w' => e = .returned (.bool (listEq (sameF k) l m)) ∧ Below w.heap.size w w' := by
  have HL := Aside0.mk hl
  have HM := Aside0.mk hm
  have HS := Aside0.mk hS
  have HD := Aside0.mk hd
  have HW := Aside0.mk hw
  have hne := listEq_length (sameF k) l m
  have hat := fun j h0 h1 => listEq_at (sameF k) (l := l) (m := m) j h0 h1
  have hfull : listEq (sameF k) l m = listEq (sameF k) (l.drop 0) (m.drop 0) := rfl
  obtain ⟨q, hq⟩ : ∃ q, sameF k = q := ⟨_, rfl⟩
  have HQ := Aside0.mk hq
  rw [hq] at hne hat hfull ⊢
  have HNE := Aside0.mk hne
  have HAT := Aside0.mk hat
  have HFU := Aside0.mk hfull
  obtain ⟨n, hnn⟩ : ∃ n, l.length = n := ⟨_, rfl⟩
  obtain ⟨mm, hmm⟩ : ∃ n, m.length = n := ⟨_, rfl⟩
  have HN := Aside0.mk hnn
  have HMM := Aside0.mk hmm
  rw [hnn] at hn ⊢
  rw [hmm]
  clear hl hm hS hd hw hne hat hfull hq hnn hmm
  go_enter Try.func22, Try.ntmps22
  by_cases he : n = mm
  · subst he
    have hne0 : ((n : Int) != (n : Int)) = false := by simp
    go_wp2_with (fail)
    go_loopg [17] (n + 1) (fun gk i wr => ∃ j : Nat, n - j < gk ∧ j ≤ n ∧ i = .int .i64 j ∧ Aside0 (listEq q l m = listEq q (l.drop j) (m.drop j) ∧ Below w.heap.size w wr))
    case atStart => exact ⟨0, by omega, Nat.zero_le _, rfl, ⟨HFU.out, Below.refl _ _⟩⟩
    case round =>
      obtain ⟨j, hgk, hj, rfl, HH⟩ := hrel
      by_cases hlt : j < n
      · have hd0 : decide ((j : Int) < (n : Int)) = true := decide_eq_true (by omega)
        have hjl : j < l.length := by rw [HN.out]; exact hlt
        have hjm : j < m.length := by rw [HMM.out]; exact hlt
        obtain ⟨ad, P2, e2, P4, e4, eA, hx0, hx1, hx2, hx3, hx4, hl2, hg2, hl4, hg4⟩ := at_T25 HL.out (j : Int) (by omega) (by omega)
        obtain ⟨bd, R2, g2, R4, g4, eB, hy0, hy1, hy2, hy3, hy4, hm2, hh2, hm4, hh4⟩ := at_T25 HM.out (j : Int) (by omega) (by omega)
        have hxe : rd_T25 l (j : Int) = l[j] := by simp [rd_T25, hjl]
        have hye : rd_T25 m (j : Int) = m[j] := by simp [rd_T25, hjm]
        obtain ⟨x, hx⟩ : ∃ x, l[j] = x := ⟨_, rfl⟩
        obtain ⟨y, hy⟩ : ∃ y, m[j] = y := ⟨_, rfl⟩
        have hxm : x ∈ l := by rw [← hx]; exact List.getElem_mem hjl
        rw [hxe, hx] at hl2 hg2 hl4 hg4
        rw [hye, hy] at hm2 hh2 hm4 hh4
        rw [hxe, hx, Int.toNat_natCast] at hx0 hx1 hx2 hx3 hx4
        rw [hye, hy, Int.toNat_natCast] at hy0 hy1 hy2 hy3 hy4
        cases eA
        cases eB
        replace hx0 := (HH.out.2.cell (World.block_lt_of_cell? w _ hx0)).trans hx0
        replace hx1 := (HH.out.2.cell (World.block_lt_of_cell? w _ hx1)).trans hx1
        replace hx2 := (HH.out.2.cell (World.block_lt_of_cell? w _ hx2)).trans hx2
        replace hx3 := (HH.out.2.cell (World.block_lt_of_cell? w _ hx3)).trans hx3
        replace hx4 := (HH.out.2.cell (World.block_lt_of_cell? w _ hx4)).trans hx4
        have HY0 := Aside0.mk ((HH.out.2.cell (World.block_lt_of_cell? w _ hy0)).trans hy0)
        have HY1 := Aside0.mk ((HH.out.2.cell (World.block_lt_of_cell? w _ hy1)).trans hy1)
        have HY2 := Aside0.mk ((HH.out.2.cell (World.block_lt_of_cell? w _ hy2)).trans hy2)
        have HY3 := Aside0.mk ((HH.out.2.cell (World.block_lt_of_cell? w _ hy3)).trans hy3)
        have HY4 := Aside0.mk ((HH.out.2.cell (World.block_lt_of_cell? w _ hy4)).trans hy4)
        have hcall := fun W (hb : Below w.heap.size w W) => HS.out x y P2 P4 R2 R4 e2 e4 g2 g4 W (HD.out x hxm) hl2 (Kd.C_below hg2 hb) hl4 (Kd.C_below hg4 hb) hm2 (Kd.C_below hh2 hb) hm4 (Kd.C_below hh4 hb) (HW.out x hxm)
        rw [HQ.out] at hcall
        have hst := HAT.out j hjl hjm
        rw [hx, hy] at hst
        have HST := Aside0.mk hst
        clear hst hl2 hg2 hl4 hg4 hm2 hh2 hm4 hh4 hxe hye hx hy hxm hy0 hy1 hy2 hy3 hy4
        obtain ⟨a2, ha2⟩ : ∃ m, x.f2.length = m := ⟨_, rfl⟩
        obtain ⟨a4, ha4⟩ : ∃ m, x.f4.length = m := ⟨_, rfl⟩
        obtain ⟨b2, hb2⟩ : ∃ m, y.f2.length = m := ⟨_, rfl⟩
        obtain ⟨b4, hb4⟩ : ∃ m, y.f4.length = m := ⟨_, rfl⟩
        have HY2b : Aside0 (wr.cell? ⟨(bd.add (j * 5)).block, (bd.add (j * 5)).off + 2, none⟩ = some (.slice R2 b2 g2)) := by rw [← hb2]; exact HY2
        have HY4b : Aside0 (wr.cell? ⟨(bd.add (j * 5)).block, (bd.add (j * 5)).off + 4, none⟩ = some (.slice R4 b4 g4)) := by rw [← hb4]; exact HY4
        rw [ha2] at hx2
        rw [ha4] at hx4
        simp only [ha2, ha4, hb2, hb4] at hcall
        clear ha2 ha4 hb2 hb4 HY2 HY4
        go_upto_region 6 with (fail)
        obtain ⟨w5, hw5⟩ : ∃ w5, wr.alloc (Obj.cells #[Value.string x.f0, Value.string x.f1, Value.slice P2 a2 e2, Value.string x.f3, Value.slice P4 a4 e4] 25) = w5 := ⟨_, rfl⟩
        rw [hw5]
        obtain ⟨b8, hb8⟩ : ∃ b, wr.heap.size = b := ⟨_, rfl⟩
        have hB5 : Below wr.heap.size wr w5 := by rw [← hw5]; exact (Below.refl _ _).alloc (Nat.le_refl _) _
        have h85 : w5.heap[b8]? = some (.cells #[.string x.f0, .string x.f1, .slice P2 a2 e2, .string x.f3, .slice P4 a4 e4] 25 (0, 0)) := by rw [← hw5, ← hb8]; exact blk_new _ _
        have hcy : ∀ (a : Addr) v, wr.cell? a = some v → w5.cell? a = some v := fun a v h => (hB5.cell (World.block_lt_of_cell? wr _ h)).trans h
        have hy0 := hcy _ _ HY0.out
        have hy1 := hcy _ _ HY1.out
        have hy2 := hcy _ _ HY2b.out
        have hy3 := hcy _ _ HY3.out
        have hy4 := hcy _ _ HY4b.out
        have H85 := Aside0.mk h85
        have HB5 := Aside0.mk (below_step HH.out.2 hB5)
        rw [hb8]
        clear hB5 h85 hcy hx0 hx1 hx2 hx3 hx4 hb8 hw5
        go_upto_region 7 with (fail)
        obtain ⟨w6, hw6⟩ : ∃ w6, w5.alloc (Obj.cells #[Value.string y.f0, Value.string y.f1, Value.slice R2 b2 g2, Value.string y.f3, Value.slice R4 b4 g4] 25) = w6 := ⟨_, rfl⟩
        rw [hw6]
        obtain ⟨b9, hb9⟩ : ∃ b, w5.heap.size = b := ⟨_, rfl⟩
        have hB6 : Below w5.heap.size w5 w6 := by rw [← hw6]; exact (Below.refl _ _).alloc (Nat.le_refl _) _
        have h96 : w6.heap[b9]? = some (.cells #[.string y.f0, .string y.f1, .slice R2 b2 g2, .string y.f3, .slice R4 b4 g4] 25 (0, 0)) := by rw [← hw6, ← hb9]; exact blk_new _ _
        have h86 : w6.heap[b8]? = some (.cells #[.string x.f0, .string x.f1, .slice P2 a2 e2, .string x.f3, .slice P4 a4 e4] 25 (0, 0)) := blk_below H85.out hB6
        have HB6 := Aside0.mk (below_step HB5.out hB6)
        rw [hb9]
        clear hB6 hy0 hy1 hy2 hy3 hy4 hb9 hw6
        have hu0 : w6.cell? ⟨b8, 0, none⟩ = some (.string x.f0) := (blk_cell h86 0).trans rfl
        have hu1 : w6.cell? ⟨b8, 1, none⟩ = some (.string x.f1) := (blk_cell h86 1).trans rfl
        have hu2 : w6.cell? ⟨b8, 2, none⟩ = some (.slice P2 a2 e2) := (blk_cell h86 2).trans rfl
        have hu3 : w6.cell? ⟨b8, 3, none⟩ = some (.string x.f3) := (blk_cell h86 3).trans rfl
        have hu4 : w6.cell? ⟨b8, 4, none⟩ = some (.slice P4 a4 e4) := (blk_cell h86 4).trans rfl
        have hv0 : w6.cell? ⟨b9, 0, none⟩ = some (.string y.f0) := (blk_cell h96 0).trans rfl
        have hv1 : w6.cell? ⟨b9, 1, none⟩ = some (.string y.f1) := (blk_cell h96 1).trans rfl
        have hv2 : w6.cell? ⟨b9, 2, none⟩ = some (.slice R2 b2 g2) := (blk_cell h96 2).trans rfl
        have hv3 : w6.cell? ⟨b9, 3, none⟩ = some (.string y.f3) := (blk_cell h96 3).trans rfl
        have hv4 : w6.cell? ⟨b9, 4, none⟩ = some (.slice R4 b4 g4) := (blk_cell h96 4).trans rfl
        clear h86 h96
        have hcall6 := hcall w6 HB6.out
        clear hcall
        cases hqq : q x y with
        | true =>
          rw [hqq] at hcall6
          go_wp2_with (fail)
          refine hcall6.mono ?_
          rintro e w7 ⟨rfl, hb7⟩
          clear hcall6
          go_wp2_with (fail)
          go_roundg (n - j)
          case measure => omega
          case rel => exact ⟨j + 1, by omega, by omega, rfl, ⟨by rw [HH.out.1, HST.out, hqq, Bool.true_and], below_step HB6.out hb7⟩⟩
        | false =>
          rw [hqq] at hcall6
          go_wp2_with (fail)
          refine hcall6.mono ?_
          rintro e w7 ⟨rfl, hb7⟩
          clear hcall6
          go_wp2_with (fail)
          go_ret
          rw [HH.out.1, HST.out, hqq, Bool.false_and]
          exact ⟨rfl, below_step HB6.out hb7⟩
      · have hd0 : decide ((j : Int) < (n : Int)) = false := decide_eq_false (by omega)
        have hz : listEq q l m = true := by
          rw [HH.out.1, List.drop_eq_nil_of_le (by rw [HN.out]; omega), List.drop_eq_nil_of_le (by rw [HMM.out]; omega)]
          rfl
        have HZ := Aside0.mk hz
        clear hz
        go_wp2_with (fail)
        go_ret
        rw [HZ.out]
        exact ⟨rfl, HH.out.2⟩
  · have hbq : ((n : Int) != (mm : Int)) = true := by simp; omega
    have hbr : ((n : Int) == (mm : Int)) = false := by simp; omega
    have hbs : decide ((n : Int) = (mm : Int)) = false := decide_eq_false (by omega)
    have hz : listEq q l m = false := HNE.out (by rw [HN.out, HMM.out]; exact he)
    have HZ := Aside0.mk hz
    clear hz
    go_wp2_with (fail)
    go_ret
    rw [HZ.out]
    exact ⟨rfl, Below.refl _ _⟩

end Go.Proofs.Ytepdfpclicdpfaa.H
