-- written by hp.py for this claim, out of the kit's printer and texts of my own
import Derived.Test.YtepdfpclicdpfaaHx0
import Derived.Test.YtepdfpclicdpfaaHx20001
import Derived.Test.YtepdfpclicdpfaaHx20001
import Derived.Lib.Hide
import Derived.Deep.LoopGhost
import Derived.Deep.DeepCutAuto
namespace Go.Proofs.Ytepdfpclicdpfaa.H
open Go.RowKit Go.Proofs.YtepdfpclicdpfaaW.PrintWords Go.Proofs.YtepdfpclicdpfaaW.PrintLast Go.Proofs.YtepdfpclicdpfaaW.PrintMore
attribute [local go_sem] max2_int min2_int max_two min_two max_three min_three max_four min_four   -- for this text's walks alone
set_option linter.unusedVariables false
set_option linter.unusedSimpArgs false

/-- a step done: what stands, what was kept, the box -/
structure PutQ (w0 : World) (b g7 g6 gb : Nat) (cs : Array Value) (W1 : World) (acc : List UInt8) (W : World) : Prop where
  p : PutW w0 b g7 g6 acc W
  k : OK5 b W1 W
  bx : W.heap[gb]? = some (.cells cs 25 (0, 0))
  nb : gb ≠ b
theorem PutQ.step {w0 : World} {b g7 g6 gb : Nat} {cs : Array Value} {W1 : World} {acc acc' : List UInt8} {W W' : World} (h : PutQ w0 b g7 g6 gb cs W1 acc W) (hp : PutW w0 b g7 g6 acc' W') (hk : OK5 b W W') : PutQ w0 b g7 g6 gb cs W1 acc' W' :=
  ⟨hp, h.k.trans hk, hk.block h.bx h.nb (by decide), h.nb⟩
theorem PutQ.below {w0 : World} {b g7 g6 gb : Nat} {cs : Array Value} {W1 : World} {acc : List UInt8} {W W' : World} (h : PutQ w0 b g7 g6 gb cs W1 acc W) (hB : Below W.heap.size W W') : PutQ w0 b g7 g6 gb cs W1 acc W' :=
  ⟨h.p.below hB, h.k.below hB, blk_below h.bx hB, h.nb⟩
set_option maxHeartbeats 2000000 in
set_option maxRecDepth 1000000 in
theorem put2_calls (w0 : World) (b g7 g6 : Nat) : ∀ (k : Nat) (e : S25) (sp : ByteArray) (A2 A4 : Option Addr) (c2 c4 : Nat) (acc : List UInt8) (W : World) (h : PutW w0 b g7 g6 acc W) (hd : dOk k e)
    (hc2 : e.f2.length ≤ c2) (h2 : Kd.C k51 w0 A2 e.f2.length e.f2) (hc4 : e.f4.length ≤ c4) (h4 : Kd.C k25 w0 A4 e.f4.length e.f4) (hl : (acc ++ putL k e sp).length ≤ 100000000),
    Calls Try.prog 19 #[.agg #[.string e.f0, .string e.f1, .slice A2 e.f2.length c2, .string e.f3, .slice A4 e.f4.length c4], .string sp, .pointer (some ⟨b, 0, none⟩), .pointer (some ⟨g7, 0, none⟩), .pointer (some ⟨g6, 0, none⟩)] W
      fun r W' => r = .returned (.tuple #[]) ∧ PutW w0 b g7 g6 (acc ++ putL k e sp) W' ∧ OK5 b W W' := by
  intro k
  induction k with
  | zero => intro e sp A2 A4 c2 c4 acc W h hd; exact hd.elim
  | succ k ih =>
  intro e sp A2 A4 c2 c4 acc W h hd hc2 h2 hc4 h4 hl
  obtain ⟨f0, f1, f2, f3, f4⟩ := e
  simp only at h2 h4 hc2 hc4 ⊢
  simp only [dOk] at hd
  have hkl := kidsL_ge k f0 f4 hd
  have hal := attrsL_ge f2
  have hql := quoteL_ge f3.data.toList
  have hps : putL (k + 1) ⟨f0, f1, f2, f3, f4⟩ sp = [60] ++ f1.data.toList ++ nsL ⟨f0, f1, f2, f3, f4⟩ sp ++ attrsL f2 ++ (if f3.toList = [] ∧ f4.length = 0 then [47, 62] else [62] ++ quoteL f3.data.toList ++ kidsL k f4 f0 ++ [60, 47] ++ f1.data.toList ++ [62]) := rfl
  have HPS := Aside0.mk hps
  have hns : nsL ⟨f0, f1, f2, f3, f4⟩ sp = if f0.toList = sp.toList then [] else attrL xmlnsS f0 := rfl
  have HNS := Aside0.mk hns
  generalize nsL ⟨f0, f1, f2, f3, f4⟩ sp = ns at *
  generalize hP : putL (k + 1) ⟨f0, f1, f2, f3, f4⟩ sp = P at *
  have hf1 : f1.size ≤ 100000000 := by
    have h1 := hl
    rw [hps] at h1
    simp only [List.length_append, size_data] at h1
    omega
  have hb2 : f2.length ≤ 100000000 := by
    have h1 := hl
    rw [hps] at h1
    simp only [List.length_append] at h1
    omega
  have hb4 : f4.length ≤ 100000000 := by
    have h1 := hl
    rw [hps] at h1
    by_cases hc : f3.toList = [] ∧ f4.length = 0
    · omega
    · rw [if_neg hc] at h1
      simp only [List.length_append] at h1
      omega
  have hb3 : f3.size ≤ 100000000 ∧ (quoteS f3).size ≤ 100000000 := by
    have h1 := hl
    rw [hps] at h1
    have hq : (quoteS f3).size = (quoteL f3.data.toList).length := by simp [quoteS, ByteArray.size]
    rw [size_data] at hql
    by_cases hc : f3.toList = [] ∧ f4.length = 0
    · have hc1 := hc.1
      rw [ByteArray.toList_eq] at hc1
      have : f3.size = 0 := by rw [← size_data, hc1]; rfl
      rw [hc1] at hq
      have h0 : (quoteL []).length = 0 := rfl
      omega
    · rw [if_neg hc] at h1
      simp only [List.length_append] at h1
      omega
  have HD := Aside0.mk hd
  have HL := Aside0.mk hl
  have HX2 := Aside0.mk h2
  have HX4 := Aside0.mk h4
  have HIH := Aside0.mk ih
  obtain ⟨n2, hn2⟩ : ∃ n, f2.length = n := ⟨_, rfl⟩
  obtain ⟨n4, hn4⟩ : ∃ n, f4.length = n := ⟨_, rfl⟩
  have HN2 := Aside0.mk hn2
  have HN4 := Aside0.mk hn4
  rw [hn2] at hc2 hb2 hal ⊢
  rw [hn4] at hc4 hb4 hkl ⊢
  have HH := Aside0.mk h
  have hblt := h.blt
  clear h hps hns hP hd hl h2 h4 ih hn2 hn4 hkl hal hql
  have hu25 := Try.underlying25
  have t3 : (⟨#[60]⟩ ++ f1 : ByteArray).data.toList = [60] ++ f1.data.toList := by rw [data_append]
  have T3 := Aside0.mk t3
  clear t3
  go_enter Try.func19, Try.ntmps19
  go_wp2_with ((with_reducible refine gate_dst (N := 5) rfl ?_); refine box_event ?hg (N := 5) ?hd (cs := #[.string f0, .string f1, .slice A2 n2 c2, .string f3, .slice A4 n4 c4]) (t := 25) ?hr ?_; (case hd => rfl); (case hg => rfl); (case hr => first | (go_simp; done) | (go_simp; rfl)); intro gb hg w1 hbox hb; have HQ0 : Aside0 (PutQ w0 b g7 g6 gb #[.string f0, .string f1, .slice A2 n2 c2, .string f3, .slice A4 n4 c4] W (acc) w1) := ⟨HH.out.below hb, (Lib.OthersKept.refl _ _ _).below hb, hbox, by omega⟩; clear hg hb hbox; have hcz1_0 : w1.cell? ⟨gb, 0, none⟩ = some (.string f0) := (blk_cell HQ0.out.bx 0).trans rfl; have hcz1_1 : w1.cell? ⟨gb, 1, none⟩ = some (.string f1) := (blk_cell HQ0.out.bx 1).trans rfl; have hcz1_2 : w1.cell? ⟨gb, 2, none⟩ = some (.slice A2 n2 c2) := (blk_cell HQ0.out.bx 2).trans rfl; have hcz1_3 : w1.cell? ⟨gb, 3, none⟩ = some (.string f3) := (blk_cell HQ0.out.bx 3).trans rfl; have hcz1_4 : w1.cell? ⟨gb, 4, none⟩ = some (.slice A4 n4 c4) := (blk_cell HQ0.out.bx 4).trans rfl)
  have hlx2 : (acc ++ ([60] ++ f1.data.toList)).length ≤ 100000000 := by
    have h1 := HL.out; rw [HPS.out] at h1; simp only [List.length_append, List.length_cons, List.length_nil] at h1 ⊢; omega
  have hcall2 := putW_string (⟨#[60]⟩ ++ f1) HQ0.out.p T3.out hlx2
  refine hcall2.mono ?_
  clear hcall2 hlx2
  rintro e w2 ⟨nn2, rfl, hp2, hk2⟩
  have HQ2 : Aside0 (PutQ w0 b g7 g6 gb #[.string f0, .string f1, .slice A2 n2 c2, .string f3, .slice A4 n4 c4] W (acc ++ ([60] ++ f1.data.toList)) w2) := ⟨HQ0.out.step hp2 hk2⟩
  clear hp2 hk2
  have hcz2_0 : w2.cell? ⟨gb, 0, none⟩ = some (.string f0) := (blk_cell HQ2.out.bx 0).trans rfl
  have hcz2_1 : w2.cell? ⟨gb, 1, none⟩ = some (.string f1) := (blk_cell HQ2.out.bx 1).trans rfl
  have hcz2_2 : w2.cell? ⟨gb, 2, none⟩ = some (.slice A2 n2 c2) := (blk_cell HQ2.out.bx 2).trans rfl
  have hcz2_3 : w2.cell? ⟨gb, 3, none⟩ = some (.string f3) := (blk_cell HQ2.out.bx 3).trans rfl
  have hcz2_4 : w2.cell? ⟨gb, 4, none⟩ = some (.slice A4 n4 c4) := (blk_cell HQ2.out.bx 4).trans rfl
  have h72 : w2.cell? ⟨g7, 0, none⟩ = some (.func (.func 17) #[] #[.pointer (some ⟨b, 0, none⟩)]) := (blk_cell HQ2.out.p.c7 0).trans rfl
  go_upto_if 18 with (fail)
  clear hcz1_0 hcz1_1 hcz1_2 hcz1_3 hcz1_4 HQ0
  go_cut [5] (fun v wc => v = .pointer (some ⟨gb, 0, none⟩) ∧ Aside0 (PutQ w0 b g7 g6 gb #[.string f0, .string f1, .slice A2 n2 c2, .string f3, .slice A4 n4 c4] W (acc ++ ([60] ++ f1.data.toList) ++ ns) wc))
  case first =>
    cases hq : (f0.toList == sp.toList) with
    | true =>
      have hc : f0.toList = sp.toList := beq_iff_eq.1 hq
      go_wp2_with (fail)
      go_meet
      case rel => exact ⟨rfl, ⟨by rw [HNS.out, if_pos hc, List.append_nil]; exact HQ2.out⟩⟩
    | false =>
      have hc : ¬ f0.toList = sp.toList := beq_eq_false_iff_ne.1 hq
      have hns : ns = attrL xmlnsS f0 := by rw [HNS.out, if_neg hc]
      have HNS2 := Aside0.mk hns
      clear hns
      have hlx : (acc ++ ([60] ++ f1.data.toList) ++ attrL xmlnsS f0).length ≤ 100000000 := by
        rw [← HNS2.out]; have h1 := HL.out; rw [HPS.out] at h1; simp only [List.length_append, List.length_cons, List.length_nil] at h1 ⊢; omega
      have hcall := putW_attr xmlnsS f0 HQ2.out.p hlx
      go_wp2_with (fail)
      refine hcall.mono ?_
      rintro e w3 ⟨rfl, hp3, hk3⟩
      have HQ3 : Aside0 (PutQ w0 b g7 g6 gb #[.string f0, .string f1, .slice A2 n2 c2, .string f3, .slice A4 n4 c4] W (acc ++ ([60] ++ f1.data.toList) ++ ns) w3) := ⟨by rw [HNS2.out]; exact HQ2.out.step hp3 hk3⟩
      clear hp3 hk3 hcall hlx
      go_wp2_with (fail)
      go_meet
      case rel => exact ⟨rfl, HQ3⟩
  case rest =>
    obtain ⟨rfl, HQ⟩ := hcut
    generalize ha2 : acc ++ ([60] ++ f1.data.toList) ++ ns = acc2 at *
    have HA2 := Aside0.mk ha2
    clear ha2 HQ2 hcz2_0 hcz2_1 hcz2_2 hcz2_3 hcz2_4 h72 nn2
    have hcz3_0 : wc.cell? ⟨gb, 0, none⟩ = some (.string f0) := (blk_cell HQ.out.bx 0).trans rfl; have hcz3_1 : wc.cell? ⟨gb, 1, none⟩ = some (.string f1) := (blk_cell HQ.out.bx 1).trans rfl; have hcz3_2 : wc.cell? ⟨gb, 2, none⟩ = some (.slice A2 n2 c2) := (blk_cell HQ.out.bx 2).trans rfl; have hcz3_3 : wc.cell? ⟨gb, 3, none⟩ = some (.string f3) := (blk_cell HQ.out.bx 3).trans rfl; have hcz3_4 : wc.cell? ⟨gb, 4, none⟩ = some (.slice A4 n4 c4) := (blk_cell HQ.out.bx 4).trans rfl
    go_upto_block 0 with (fail)
    go_cut [5] (fun v wx => v = .pointer (some ⟨gb, 0, none⟩) ∧ Aside0 (PutQ w0 b g7 g6 gb #[.string f0, .string f1, .slice A2 n2 c2, .string f3, .slice A4 n4 c4] W (acc2 ++ attrsL f2) wx))
    case first =>
      go_wp2_with (fail)
      go_loopg [26] (n2 + 1) (fun gk i wr => ∃ j : Nat, n2 - j < gk ∧ j ≤ n2 ∧ i = .int .i64 j ∧ Aside0 (PutQ w0 b g7 g6 gb #[.string f0, .string f1, .slice A2 n2 c2, .string f3, .slice A4 n4 c4] W (acc2 ++ attrsL (f2.take j)) wr))
      case atStart => exact ⟨0, by omega, Nat.zero_le _, rfl, ⟨by rw [show attrsL (f2.take 0) = [] from rfl, List.append_nil]; exact HQ.out⟩⟩
      case round =>
        obtain ⟨j, hgk, hj, rfl, HR⟩ := hrel
        clear hcz3_0 hcz3_1 hcz3_2 hcz3_3 hcz3_4
        by_cases hlt : j < n2
        · have hd0 : decide ((j : Int) < (n2 : Int)) = true := decide_eq_true (by omega)
          obtain ⟨ad, e2, hx0, hx1⟩ := at_T51 HX2.out (j : Int) (by omega) (by have := HN2.out; omega)
          obtain ⟨x, hx⟩ : ∃ x, rd_T51 f2 (j : Int) = x := ⟨_, rfl⟩
          rw [hx, Int.toNat_natCast] at hx0 hx1
          cases e2
          replace hx0 := (HR.out.p.bel.cell (World.block_lt_of_cell? w0 _ hx0)).trans hx0
          replace hx1 := (HR.out.p.bel.cell (World.block_lt_of_cell? w0 _ hx1)).trans hx1
          have HXJ := Aside0.mk hx
          clear hx
          have h7r : ∀ o, (wr.alloc o).cell? ⟨g7, 0, none⟩ = some (.func (.func 17) #[] #[.pointer (some ⟨b, 0, none⟩)]) := fun o => (World.cell?_alloc_past o g7 0 (blk_lt HR.out.p.c7)).trans ((blk_cell HR.out.p.c7 0).trans rfl)
          have hb5 : ∀ o, Below wr.heap.size wr (wr.alloc o) := fun o => (Below.refl _ _).alloc (Nat.le_refl _) o
          have hst : f2[j]? = some x := by
            have := HXJ.out
            have hj2 : j < f2.length := by rw [HN2.out]; exact hlt
            rw [List.getElem?_eq_getElem hj2, ← this]
            simp [rd_T51, hj2]
          have hsn := flatMap_snoc (fun a : S51 => attrL a.f0 a.f1) f2 j x hst
          have htk := flatMap_take_le (fun a : S51 => attrL a.f0 a.f1) f2 (j + 1)
          have hlx : ((acc2 ++ attrsL (f2.take j)) ++ attrL x.f0 x.f1).length ≤ 100000000 := by
            have h1 := HL.out
            rw [hsn] at htk
            rw [HPS.out] at h1
            rw [← HA2.out]
            simp only [attrsL, List.length_append, List.length_cons, List.length_nil] at h1 htk ⊢
            omega
          have hcall := fun o => putW_attr x.f0 x.f1 (HR.out.p.below (hb5 o)) hlx
          have HSN := Aside0.mk hsn
          clear hsn htk hlx hst
          go_wp2_with (fail)
          refine (hcall _).mono ?_
          rintro e w3 ⟨rfl, hp3, hk3⟩
          have HQ3 : Aside0 (PutQ w0 b g7 g6 gb #[.string f0, .string f1, .slice (some ad) n2 c2, .string f3, .slice A4 n4 c4] W (acc2 ++ attrsL (f2.take (j + 1))) w3) := ⟨by
            have : acc2 ++ attrsL (f2.take (j + 1)) = acc2 ++ attrsL (f2.take j) ++ attrL x.f0 x.f1 := by rw [attrsL, HSN.out, List.append_assoc]; rfl
            rw [this]
            exact (HR.out.below (hb5 _)).step hp3 hk3⟩
          clear hp3 hk3 hcall h7r hb5 hx0 hx1
          go_wp2_with (fail)
          go_roundg (n2 - j)
          case measure => omega
          case rel => exact ⟨j + 1, by omega, by omega, rfl, HQ3⟩
        · have hd0 : decide ((j : Int) < (n2 : Int)) = false := decide_eq_false (by omega)
          have he : attrsL (f2.take j) = attrsL f2 := by rw [List.take_of_length_le (by rw [HN2.out]; omega)]
          have HR2 := HR.out
          rw [he] at HR2
          have HR3 := Aside0.mk HR2
          clear HR2 he
          go_wp2_with (fail)
          go_meet
          case rel => exact ⟨rfl, HR3⟩
    case rest =>
      obtain ⟨rfl, HE⟩ := hcut
      generalize ha3 : acc2 ++ attrsL f2 = acc3 at *
      have HA3 := Aside0.mk ha3
      clear ha3 HQ hcz3_0 hcz3_1 hcz3_2 hcz3_3 hcz3_4
      have hcz4_0 : wc.cell? ⟨gb, 0, none⟩ = some (.string f0) := (blk_cell HE.out.bx 0).trans rfl; have hcz4_1 : wc.cell? ⟨gb, 1, none⟩ = some (.string f1) := (blk_cell HE.out.bx 1).trans rfl; have hcz4_2 : wc.cell? ⟨gb, 2, none⟩ = some (.slice A2 n2 c2) := (blk_cell HE.out.bx 2).trans rfl; have hcz4_3 : wc.cell? ⟨gb, 3, none⟩ = some (.string f3) := (blk_cell HE.out.bx 3).trans rfl; have hcz4_4 : wc.cell? ⟨gb, 4, none⟩ = some (.slice A4 n4 c4) := (blk_cell HE.out.bx 4).trans rfl
      go_upto_region 9 with (fail)
      go_cut [5, 45] (fun v bb wx => v = .pointer (some ⟨gb, 0, none⟩) ∧ (∃ q : Bool, bb = .bool q ∧ Aside0 (q = decide (f3.toList = [] ∧ n4 = 0))) ∧ Aside0 (PutQ w0 b g7 g6 gb #[.string f0, .string f1, .slice A2 n2 c2, .string f3, .slice A4 n4 c4] W (acc3) wx))
      case first =>
        cases hq3 : (f3.toList == ([] : List UInt8)) with
        | true =>
          have hc3 : f3.toList = [] := beq_iff_eq.1 hq3
          by_cases h40 : n4 = 0
          · have HDD := Aside0.mk (decide_eq_true (p := f3.toList = [] ∧ n4 = 0) ⟨hc3, h40⟩)
            have hnb : ((n4 : Int) == 0) = true := by rw [h40]; rfl
            have hnc : decide ((n4 : Int) = 0) = true := decide_eq_true (by omega)
            clear h40 hc3
            go_wp2_with (fail)
            go_meet
            case rel => exact ⟨rfl, ⟨_, rfl, ⟨HDD.out.symm⟩⟩, HE⟩
          · have HDD := Aside0.mk (decide_eq_false (p := f3.toList = [] ∧ n4 = 0) (fun h => h40 h.2))
            have hnb : ((n4 : Int) == 0) = false := beq_eq_false_iff_ne.2 (by omega)
            have hnc : decide ((n4 : Int) = 0) = false := decide_eq_false (by omega)
            clear h40 hc3
            go_wp2_with (fail)
            go_meet
            case rel => exact ⟨rfl, ⟨_, rfl, ⟨HDD.out.symm⟩⟩, HE⟩
        | false =>
          have hc3 : ¬ f3.toList = [] := beq_eq_false_iff_ne.1 hq3
          have HDD := Aside0.mk (decide_eq_false (p := f3.toList = [] ∧ n4 = 0) (fun h => hc3 h.1))
          clear hc3
          go_wp2_with (fail)
          go_meet
          case rel => exact ⟨rfl, ⟨_, rfl, ⟨HDD.out.symm⟩⟩, HE⟩
      case rest =>
        obtain ⟨rfl, ⟨q, rfl, HQD⟩, HF⟩ := hcut
        clear HE hcz4_0 hcz4_1 hcz4_2 hcz4_3 hcz4_4
        have hcz5_0 : wc.cell? ⟨gb, 0, none⟩ = some (.string f0) := (blk_cell HF.out.bx 0).trans rfl; have hcz5_1 : wc.cell? ⟨gb, 1, none⟩ = some (.string f1) := (blk_cell HF.out.bx 1).trans rfl; have hcz5_2 : wc.cell? ⟨gb, 2, none⟩ = some (.slice A2 n2 c2) := (blk_cell HF.out.bx 2).trans rfl; have hcz5_3 : wc.cell? ⟨gb, 3, none⟩ = some (.string f3) := (blk_cell HF.out.bx 3).trans rfl; have hcz5_4 : wc.cell? ⟨gb, 4, none⟩ = some (.slice A4 n4 c4) := (blk_cell HF.out.bx 4).trans rfl
        cases q with
        | true =>
          have hcc : f3.toList = [] ∧ n4 = 0 := of_decide_eq_true HQD.out.symm
          have hPe : P = [60] ++ f1.data.toList ++ ns ++ attrsL f2 ++ [47, 62] := by rw [HPS.out, HN4.out, if_pos hcc]
          have hPf : acc ++ P = acc3 ++ [47, 62] := by
            rw [hPe, ← HA3.out, ← HA2.out]
            simp only [List.append_assoc]
          have hlx : (acc3 ++ [47, 62]).length ≤ 100000000 := by rw [← hPf]; exact HL.out
          have hcall := putW_string ⟨#[47, 62]⟩ HF.out.p rfl hlx
          have HPF := Aside0.mk hPf
          clear hcc hPe hPf hlx
          go_wp2_with (fail)
          refine hcall.mono ?_
          rintro e w6 ⟨n6, rfl, hp6, hk6⟩
          have HQ6 := Aside0.mk (HF.out.step hp6 hk6)
          clear hp6 hk6 hcall
          go_wp2_with (fail)
          refine bodyPost_ret (results_none rfl _ _ _) rfl ?_
          exact ⟨rfl, by rw [HPF.out]; exact HQ6.out.p, HQ6.out.k⟩
        | false =>
          have hcc : ¬ (f3.toList = [] ∧ n4 = 0) := of_decide_eq_false HQD.out.symm
          have hPe : P = [60] ++ f1.data.toList ++ ns ++ attrsL f2 ++ ([62] ++ quoteL f3.data.toList ++ kidsL k f4 f0 ++ [60, 47] ++ f1.data.toList ++ [62]) := by rw [HPS.out, HN4.out, if_neg hcc]
          have hPf : acc ++ P = acc3 ++ ([62] ++ quoteL f3.data.toList) ++ kidsL k f4 f0 ++ ([60, 47] ++ f1.data.toList ++ [62]) := by
            rw [hPe, ← HA3.out, ← HA2.out]
            simp only [List.append_assoc]
          have hll : (acc3 ++ ([62] ++ quoteL f3.data.toList) ++ kidsL k f4 f0 ++ ([60, 47] ++ f1.data.toList ++ [62])).length ≤ 100000000 := by rw [← hPf]; exact HL.out
          have HPF := Aside0.mk hPf
          have HLL := Aside0.mk hll
          clear hcc hPe hPf hll
          have kQ := fun w => quote_calls f3 w (by omega)
          go_wp2_with (fail)
          refine (kQ _).mono ?_
          rintro e w4 ⟨rfl, hb⟩
          have HQ4 : Aside0 (PutQ w0 b g7 g6 gb #[.string f0, .string f1, .slice A2 n2 c2, .string f3, .slice A4 n4 c4] W (acc3) w4) := ⟨HF.out.below hb⟩
          clear hb kQ hcz5_0 hcz5_1 hcz5_2 hcz5_3 hcz5_4 HF
          have hqd : (⟨#[62]⟩ ++ quoteS f3 : ByteArray).data.toList = [62] ++ quoteL f3.data.toList := by rw [data_append]; rfl
          have hqsz := hb3.2
          clear hb3
          generalize quoteS f3 = qs at *
          have HQD2 := Aside0.mk hqd
          clear hqd
          have hlx : (acc3 ++ ([62] ++ quoteL f3.data.toList)).length ≤ 100000000 := by
            have h1 := HLL.out
            simp only [List.length_append, List.length_cons, List.length_nil] at h1 ⊢
            omega
          have hcall := putW_string (⟨#[62]⟩ ++ qs) HQ4.out.p HQD2.out hlx
          clear hlx
          go_wp2_with (fail)
          refine hcall.mono ?_
          rintro e w5 ⟨n5, rfl, hp5, hk5⟩
          generalize ha4 : acc3 ++ ([62] ++ quoteL f3.data.toList) = acc4 at *
          have HA4 := Aside0.mk ha4
          have HQ5 : Aside0 (PutQ w0 b g7 g6 gb #[.string f0, .string f1, .slice A2 n2 c2, .string f3, .slice A4 n4 c4] W (acc4) w5) := ⟨HQ4.out.step hp5 hk5⟩
          clear hp5 hk5 hcall HQ4 ha4
          have hcz6_0 : w5.cell? ⟨gb, 0, none⟩ = some (.string f0) := (blk_cell HQ5.out.bx 0).trans rfl; have hcz6_1 : w5.cell? ⟨gb, 1, none⟩ = some (.string f1) := (blk_cell HQ5.out.bx 1).trans rfl; have hcz6_2 : w5.cell? ⟨gb, 2, none⟩ = some (.slice A2 n2 c2) := (blk_cell HQ5.out.bx 2).trans rfl; have hcz6_3 : w5.cell? ⟨gb, 3, none⟩ = some (.string f3) := (blk_cell HQ5.out.bx 3).trans rfl; have hcz6_4 : w5.cell? ⟨gb, 4, none⟩ = some (.slice A4 n4 c4) := (blk_cell HQ5.out.bx 4).trans rfl
          go_upto_block 2 with (fail)
          go_cut [5] (fun v wx => v = .pointer (some ⟨gb, 0, none⟩) ∧ Aside0 (PutQ w0 b g7 g6 gb #[.string f0, .string f1, .slice A2 n2 c2, .string f3, .slice A4 n4 c4] W (acc4 ++ kidsL k f4 f0) wx))
          case first =>
            go_wp2_with (fail)
            go_loopg [55] (n4 + 1) (fun gk i wr => ∃ j : Nat, n4 - j < gk ∧ j ≤ n4 ∧ i = .int .i64 j ∧ Aside0 (PutQ w0 b g7 g6 gb #[.string f0, .string f1, .slice A2 n2 c2, .string f3, .slice A4 n4 c4] W (acc4 ++ kidsL k (f4.take j) f0) wr))
            case atStart => exact ⟨0, by omega, Nat.zero_le _, rfl, ⟨by rw [show kidsL k (f4.take 0) f0 = [] from rfl, List.append_nil]; exact HQ5.out⟩⟩
            case round =>
              obtain ⟨j, hgk, hj, rfl, HR⟩ := hrel
              clear hcz6_0 hcz6_1 hcz6_2 hcz6_3 hcz6_4
              by_cases hlt : j < n4
              · have hd0 : decide ((j : Int) < (n4 : Int)) = true := decide_eq_true (by omega)
                obtain ⟨ad, B2, d2, B4, d4, e4, hx0, hx1, hx2, hx3, hx4, hl2, hg2, hl4, hg4⟩ := at_T25 HX4.out (j : Int) (by omega) (by have := HN4.out; omega)
                obtain ⟨x, hx⟩ : ∃ x, rd_T25 f4 (j : Int) = x := ⟨_, rfl⟩
                rw [hx, Int.toNat_natCast] at hx0 hx1 hx2 hx3 hx4
                rw [hx] at hl2 hg2 hl4 hg4
                cases e4
                replace hx0 := (HR.out.p.bel.cell (World.block_lt_of_cell? w0 _ hx0)).trans hx0
                replace hx1 := (HR.out.p.bel.cell (World.block_lt_of_cell? w0 _ hx1)).trans hx1
                replace hx2 := (HR.out.p.bel.cell (World.block_lt_of_cell? w0 _ hx2)).trans hx2
                replace hx3 := (HR.out.p.bel.cell (World.block_lt_of_cell? w0 _ hx3)).trans hx3
                replace hx4 := (HR.out.p.bel.cell (World.block_lt_of_cell? w0 _ hx4)).trans hx4
                have hcg : ∀ o, (wr.alloc o).cell? ⟨gb, 0, none⟩ = some (.string f0) := fun o => (World.cell?_alloc_past o gb 0 (blk_lt HR.out.bx)).trans ((blk_cell HR.out.bx 0).trans rfl)
                have h6r : ∀ o, (wr.alloc o).cell? ⟨g6, 0, none⟩ = some (.func (.func 19) #[] #[.pointer (some ⟨b, 0, none⟩), .pointer (some ⟨g7, 0, none⟩), .pointer (some ⟨g6, 0, none⟩)]) := fun o => (World.cell?_alloc_past o g6 0 (blk_lt HR.out.p.c6)).trans ((blk_cell HR.out.p.c6 0).trans rfl)
                have hb5 : ∀ o, Below wr.heap.size wr (wr.alloc o) := fun o => (Below.refl _ _).alloc (Nat.le_refl _) o
                have hj2 : j < f4.length := by rw [HN4.out]; exact hlt
                have hst : f4[j]? = some x := by
                  rw [List.getElem?_eq_getElem hj2, ← hx]
                  simp [rd_T25, hj2]
                have hdx : dOk k x := HD.out x (List.mem_of_getElem? hst)
                have hsn := flatMap_snoc (fun c : S25 => putL k c f0) f4 j x hst
                have htk := flatMap_take_le (fun c : S25 => putL k c f0) f4 (j + 1)
                have hlx : ((acc4 ++ kidsL k (f4.take j) f0) ++ putL k x f0).length ≤ 100000000 := by
                  have h1 := HLL.out
                  rw [hsn] at htk
                  simp only [kidsL, List.length_append, List.length_cons, List.length_nil] at h1 htk ⊢
                  omega
                have hcall := fun o => HIH.out x f0 B2 B4 d2 d4 _ _ (HR.out.p.below (hb5 o)) hdx hl2 hg2 hl4 hg4 hlx
                have HSN := Aside0.mk hsn
                clear hsn htk hlx hst hdx hj2 hl2 hg2 hl4 hg4 hx
                obtain ⟨m2, hm2⟩ : ∃ m, x.f2.length = m := ⟨_, rfl⟩
                obtain ⟨m4, hm4⟩ : ∃ m, x.f4.length = m := ⟨_, rfl⟩
                rw [hm2] at hx2 hcall
                rw [hm4] at hx4 hcall
                clear hm2 hm4
                go_wp2_with (fail)
                refine (hcall _).mono ?_
                rintro e w7 ⟨rfl, hp7, hk7⟩
                have HQ7 : Aside0 (PutQ w0 b g7 g6 gb #[.string f0, .string f1, .slice A2 n2 c2, .string f3, .slice (some ad) n4 c4] W (acc4 ++ kidsL k (f4.take (j + 1)) f0) w7) := ⟨by
                  have : acc4 ++ kidsL k (f4.take (j + 1)) f0 = acc4 ++ kidsL k (f4.take j) f0 ++ putL k x f0 := by rw [kidsL, HSN.out, List.append_assoc]; rfl
                  rw [this]
                  exact (HR.out.below (hb5 _)).step hp7 hk7⟩
                clear hp7 hk7 hcall h6r hcg hb5 hx0 hx1 hx2 hx3 hx4
                go_wp2_with (fail)
                go_roundg (n4 - j)
                case measure => omega
                case rel => exact ⟨j + 1, by omega, by omega, rfl, HQ7⟩
              · have hd0 : decide ((j : Int) < (n4 : Int)) = false := decide_eq_false (by omega)
                have he : kidsL k (f4.take j) f0 = kidsL k f4 f0 := by rw [List.take_of_length_le (by rw [HN4.out]; omega)]
                have HR2 := HR.out
                rw [he] at HR2
                have HR3 := Aside0.mk HR2
                clear HR2 he
                go_wp2_with (fail)
                go_meet
                case rel => exact ⟨rfl, HR3⟩
          case rest =>
            obtain ⟨rfl, HG⟩ := hcut
            clear hcz6_0 hcz6_1 hcz6_2 hcz6_3 hcz6_4
            have hcz7_0 : wc.cell? ⟨gb, 0, none⟩ = some (.string f0) := (blk_cell HG.out.bx 0).trans rfl; have hcz7_1 : wc.cell? ⟨gb, 1, none⟩ = some (.string f1) := (blk_cell HG.out.bx 1).trans rfl; have hcz7_2 : wc.cell? ⟨gb, 2, none⟩ = some (.slice A2 n2 c2) := (blk_cell HG.out.bx 2).trans rfl; have hcz7_3 : wc.cell? ⟨gb, 3, none⟩ = some (.string f3) := (blk_cell HG.out.bx 3).trans rfl; have hcz7_4 : wc.cell? ⟨gb, 4, none⟩ = some (.slice A4 n4 c4) := (blk_cell HG.out.bx 4).trans rfl
            have ht : (⟨#[60, 47]⟩ ++ f1 ++ ⟨#[62]⟩ : ByteArray).data.toList = [60, 47] ++ f1.data.toList ++ [62] := by simp only [data_append]
            have HLL2 : Aside0 ((acc4 ++ kidsL k f4 f0 ++ ([60, 47] ++ f1.data.toList ++ [62])).length ≤ 100000000) := HLL
            have hcall := putW_string (⟨#[60, 47]⟩ ++ f1 ++ ⟨#[62]⟩) HG.out.p ht HLL2.out
            go_wp2_with (fail)
            refine hcall.mono ?_
            rintro e w8 ⟨n8, rfl, hp8, hk8⟩
            have HQ8 := Aside0.mk (HG.out.step hp8 hk8)
            clear hp8 hk8 hcall ht
            go_wp2_with (fail)
            go_end0
            exact ⟨rfl, by rw [HPF.out]; exact HQ8.out.p, HQ8.out.k⟩
@[local go_sem] theorem run_store_funcv {P : Program} {w : World} {a : Addr} {m : Mode} (f : Fn) (ts : Array Value) (cs : Array Value) : (store a (.func f ts cs) m).run P w = stored P w a (.func f ts cs) m := run_store P w a _ m rfl
set_option maxHeartbeats 2000000 in
set_option maxRecDepth 1000000 in
theorem put_calls (k : Nat) (e : S25) (sp : ByteArray) (A2 A4 : Option Addr) (c2 c4 : Nat) (w : World) (hd : dOk k e)
    (hc2 : e.f2.length ≤ c2) (h2 : Kd.C k51 w A2 e.f2.length e.f2) (hc4 : e.f4.length ≤ c4) (h4 : Kd.C k25 w A4 e.f4.length e.f4) (hl : (putL k e sp).length ≤ 100000000) :
    Calls Try.prog 9 #[.agg #[.string e.f0, .string e.f1, .slice A2 e.f2.length c2, .string e.f3, .slice A4 e.f4.length c4], .string sp] w
      fun r W' => r = .returned (.string ⟨(putL k e sp).toArray⟩) ∧ Below w.heap.size w W' := by
  have kP := fun b g7 g6 W h => put2_calls w b g7 g6 k e sp A2 A4 c2 c4 [] W h hd hc2 h2 hc4 h4 hl
  obtain ⟨f0, f1, f2, f3, f4⟩ := e
  simp only at hc2 hc4 kP ⊢
  clear h2 h4 hd
  obtain ⟨n2, hn2⟩ : ∃ n, f2.length = n := ⟨_, rfl⟩
  obtain ⟨n4, hn4⟩ : ∃ n, f4.length = n := ⟨_, rfl⟩
  rw [hn2] at hc2 kP ⊢
  rw [hn4] at hc4 kP ⊢
  clear hn2 hn4
  generalize putL k ⟨f0, f1, f2, f3, f4⟩ sp = P at *
  have hu25 := Try.underlying25
  have KP := Aside0.mk kP
  clear kP
  go_enter Try.func9, Try.ntmps9
  go_upto_region 3 with (first
    | ((with_reducible refine gate_dst (N := 2) rfl ?_); refine box_event ?hg (N := 2) ?hd (cs := #[.string f0, .string f1, .slice A2 n2 c2, .string f3, .slice A4 n4 c4]) (t := 25) ?hr ?_; (case hd => rfl); (case hg => rfl); (case hr => first | (go_simp; done) | (go_simp; rfl)); intro gb hg w1 hbox hb; have HBX := Aside0.mk hbox; have HB1 := Aside0.mk hb; have hgb : gb < w1.heap.size := blk_lt hbox; have hsz1 := hb.size; clear hg hb hbox)
    | fail)
  obtain ⟨w3, hw3⟩ : ∃ w3, ((w1.alloc (Obj.cells #[Value.pointer none, Value.slice none 0 0] 43)).alloc (Obj.cells #[Value.nilFunc] 44)) = w3 := ⟨_, rfl⟩
  rw [hw3]
  have hs3 : w3.heap.size = w1.heap.size + 2 := by rw [← hw3, Deep.nblk_alloc, Deep.nblk_alloc]
  have hI3 : w3.heap[w1.heap.size]? = some (.cells #[.pointer none, .slice none 0 0] 43 (0, 0)) := by
    rw [← hw3]
    exact blk_alloc (blk_new w1 _) _
  have h63 : w3.heap[w1.heap.size + 1]? = some (.cells #[.nilFunc] 44 (0, 0)) := by rw [← hw3, ← Deep.nblk_alloc w1 (Obj.cells #[Value.pointer none, Value.slice none 0 0] 43)]; exact Deep.blk_alloc_new _ _
  have hB3 : Below w1.heap.size w1 w3 := by rw [← hw3]; exact ((Below.refl _ _).alloc (Nat.le_refl _) _).alloc (by rw [Deep.nblk_alloc]; omega) _
  have hbx3 : w3.heap[gb]? = some (.cells #[.string f0, .string f1, .slice A2 n2 c2, .string f3, .slice A4 n4 c4] 25 (0, 0)) := blk_below HBX.out hB3
  have HS3 := Aside0.mk hs3
  have HI3 := Aside0.mk hI3
  have H63 := Aside0.mk h63
  have HB3 := Aside0.mk hB3
  have HBX3 := Aside0.mk hbx3
  clear hw3 hs3 hI3 h63 hB3 hbx3
  have hc7 : (w3.alloc (Obj.cells #[Value.nilFunc] 49)).cell? ⟨w3.heap.size, 0, none⟩ = some .nilFunc := (blk_cell (Deep.blk_alloc_new _ _) 0).trans rfl
  have hf7 : (w3.alloc (Obj.cells #[Value.nilFunc] 49)).frozen? ⟨w3.heap.size, 0, none⟩ = false := blk_frozen (Deep.blk_alloc_new _ _) 0
  go_upto_region 4 with (fail)
  obtain ⟨w4, hw4⟩ : ∃ w4, (w3.alloc (Obj.cells #[Value.func (Fn.func 17) #[] #[Value.pointer (some { block := w1.heap.size, off := 0 })]] 49)) = w4 := ⟨_, rfl⟩
  rw [hw4]
  obtain ⟨g7, hg7⟩ : ∃ g, w3.heap.size = g := ⟨_, rfl⟩
  have hB34 : Below w3.heap.size w3 w4 := by rw [← hw4]; exact (Below.refl _ _).alloc (Nat.le_refl _) _
  have hI4 : w4.heap[w1.heap.size]? = some (.cells #[.pointer none, .slice none 0 0] 43 (0, 0)) := blk_below HI3.out hB34
  have h64 : w4.heap[w1.heap.size + 1]? = some (.cells #[.nilFunc] 44 (0, 0)) := blk_below H63.out hB34
  have h74 : w4.heap[g7]? = some (.cells #[.func (.func 17) #[] #[.pointer (some ⟨w1.heap.size, 0, none⟩)]] 49 (0, 0)) := by rw [← hw4, ← hg7]; exact Deep.blk_alloc_new _ _
  have hbx4 : w4.heap[gb]? = some (.cells #[.string f0, .string f1, .slice A2 n2 c2, .string f3, .slice A4 n4 c4] 25 (0, 0)) := blk_below HBX3.out hB34
  have hgs : g7 = w1.heap.size + 2 := by rw [← hg7]; exact HS3.out
  have HGS := Aside0.mk hgs
  have hBw4 : Below w.heap.size w w4 := (HB1.out.trans (HB3.out.mono hsz1)).trans (hB34.mono (by have := HB3.out.size; omega))
  have hne : g7 ≠ w1.heap.size + 1 := by omega
  have hnb7 : g7 ≠ w1.heap.size := by omega
  rw [hg7]
  have hc6 : w4.cell? ⟨w1.heap.size + 1, 0, none⟩ = some .nilFunc := (blk_cell h64 0).trans rfl
  have hf6 : w4.frozen? ⟨w1.heap.size + 1, 0, none⟩ = false := blk_frozen h64 0
  have HI4 := Aside0.mk hI4
  have H64 := Aside0.mk h64
  have H74 := Aside0.mk h74
  have HBX4 := Aside0.mk hbx4
  have HBW4 := Aside0.mk hBw4
  clear hI4 hB34 h64 h74 hbx4 hgs hBw4 hw4 hg7 hc7 hf7
  clear hsz1
  generalize hg6 : w1.heap.size + 1 = g6 at *
  generalize hb : w1.heap.size = b at *
  have hn6 : g6 ≠ b := by omega
  have hbw : w.heap.size ≤ b := by rw [← hb]; exact HB1.out.size
  go_upto_region 5 with (fail)
  obtain ⟨w5, hw5⟩ : ∃ w5, w4.setCell ⟨g6, 0, none⟩ (Value.func (Fn.func 19) #[] #[Value.pointer (some { block := b, off := 0 }), Value.pointer (some { block := g7, off := 0 }), Value.pointer (some { block := g6, off := 0 })]) = w5 := ⟨_, rfl⟩
  rw [hw5]
  have h65 : w5.heap[g6]? = some (.cells #[.func (.func 19) #[] #[.pointer (some ⟨b, 0, none⟩), .pointer (some ⟨g7, 0, none⟩), .pointer (some ⟨g6, 0, none⟩)]] 44 (0, 0)) := by rw [← hw5]; exact blk_put H64.out 0 _ rfl
  have h75 : w5.heap[g7]? = some (.cells #[.func (.func 17) #[] #[.pointer (some ⟨b, 0, none⟩)]] 49 (0, 0)) := by rw [← hw5]; exact blk_far H74.out (by exact hne) _
  have hgb6 : gb ≠ g6 := by omega
  have hbx5 : w5.heap[gb]? = some (.cells #[.string f0, .string f1, .slice A2 n2 c2, .string f3, .slice A4 n4 c4] 25 (0, 0)) := by rw [← hw5]; exact blk_far HBX4.out (by exact hgb6) _
  have hB5 : Below w.heap.size w w5 := by rw [← hw5]; exact below_set HBW4.out (by omega)
  have hb5 : w5.heap[b]? = some (.cells #[.pointer none, .slice none 0 0] 43 (0, 0)) := by rw [← hw5]; exact blk_far HI4.out (by exact Ne.symm hn6) _
  have h0 : Lib.IsBuilder 43 5 w.heap.size b [] w5 := Or.inl ⟨hbw, .slice none 0 0, hb5, World.ownsRow_nil _ _ _ _, by simp [Value.ownBlock]⟩
  have hI5 : IsB w.heap.size b [] w5 := Lib.IsBuilderF.of h0
  have HP := Aside0.mk (KP.out b g7 g6 w5 ⟨hI5, hB5, h75, h65, hnb7, hn6⟩)
  have hcz0 : w5.cell? ⟨gb, 0, none⟩ = some (.string f0) := (blk_cell hbx5 0).trans rfl
  have hcz1 : w5.cell? ⟨gb, 1, none⟩ = some (.string f1) := (blk_cell hbx5 1).trans rfl
  have hcz2 : w5.cell? ⟨gb, 2, none⟩ = some (.slice A2 n2 c2) := (blk_cell hbx5 2).trans rfl
  have hcz3 : w5.cell? ⟨gb, 3, none⟩ = some (.string f3) := (blk_cell hbx5 3).trans rfl
  have hcz4 : w5.cell? ⟨gb, 4, none⟩ = some (.slice A4 n4 c4) := (blk_cell hbx5 4).trans rfl
  have hc65 : w5.cell? ⟨g6, 0, none⟩ = some (.func (.func 19) #[] #[.pointer (some ⟨b, 0, none⟩), .pointer (some ⟨g7, 0, none⟩), .pointer (some ⟨g6, 0, none⟩)]) := (blk_cell h65 0).trans rfl
  clear h65 h75 hbx5 hB5 hI5 hw5 hc6 hf6 h0 hb5
  go_wp2_with (fail)
  refine HP.out.mono ?_
  rintro e w6 ⟨rfl, hp, hk⟩
  have HP6 := Aside0.mk hp
  clear hp hk HP KP
  have kS := Try.Builder_String_any_k w.heap.size b P w6 HP6.out.isb HP6.out.bel.size
  go_wp2_with (fail)
  refine kS.mono ?_
  (first | rintro e W1 rfl h0 b1 k1 | rintro e W1 ⟨rfl, h0, b1, k1⟩)
  go_wp2_with (fail)
  go_ret
  exact ⟨rfl, HP6.out.bel.trans b1⟩

end Go.Proofs.Ytepdfpclicdpfaa.H
