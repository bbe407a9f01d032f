-- written by hp.py for this claim, out of the kit's printer and texts of my own
import Derived.Test.YthncdeeakhilfaaHx0
import Derived.Test.YthncdeeakhilfaaHx20
import Derived.Test.YthncdeeakhilfaaHx20001
import Derived.Test.YthncdeeakhilfaaHx20001
import Derived.Deep.RegionLaw
import Derived.Deep.QuietTactic
import Derived.BigQuiet
import Derived.WalkKit
namespace Go.Proofs.Ythncdeeakhilfaa.H
open Go.RowKit Go.Proofs.YthncdeeakhilfaaW.PrintWords Go.Proofs.YthncdeeakhilfaaW.PrintLast Go.Proofs.YthncdeeakhilfaaW.PrintMore
attribute [local go_sem] max2_int min2_int max_two min_two max_three min_three max_four min_four   -- for this text's walks alone
set_option linter.unusedVariables false
set_option linter.unusedSimpArgs false

theorem FlapAt.setNil {B g : Nat} {W : World} {st : FlapSt} {v : Value} (h : FlapAt B W g st v) (st' : FlapSt) (hr : st'.rd = []) (hc : (flapCells st v).setIfInBounds 3 (.slice none 0 0) = flapCells st' (.slice none 0 0)) :
    FlapAt B (W.setCell ⟨g, 3, none⟩ (.slice none 0 0)) g st' (.slice none 0 0) :=
  ⟨by rw [← hc]; exact blk_set h.blk 3 _, by rw [hr]; exact own_nil _ _ _ _, h.base⟩
theorem nums_snoc (xs : List Int) (c : Int) : nums .u8 (xs ++ [c]) = nums .u8 xs ++ [.int .u8 c] := by simp [nums]
/-- behind the append of a byte -/
theorem flapGrown {B g g1 cap : Nat} {wr W1 : World} {st : FlapSt} {v : Value} {c : Int} {o : Obj} (h : FlapAt B wr g st v) (hB : B ≤ wr.heap.size)
    (ho : W1.ownsRow B 5 1 (.slice (some ⟨g1, 0, none⟩) (st.rd.length + 1) cap) (st.rd.length + 1) (nums .u8 st.rd ++ [.int .u8 c])) (hg : (wr.alloc o).drew.grownBy W1 v.ownBlock) :
    FlapAt B (W1.setCell ⟨g, 3, none⟩ (.slice (some ⟨g1, 0, none⟩) (st.rd.length + 1) cap)) g { st with rd := st.rd ++ [c] } (.slice (some ⟨g1, 0, none⟩) (st.rd.length + 1) cap) ∧ FlapK B wr (W1.setCell ⟨g, 3, none⟩ (.slice (some ⟨g1, 0, none⟩) (st.rd.length + 1) cap)) := by
  have hA := (h.below (below_alloc (Below.refl _ _) o)).drew
  have hb := blk_grown hA.blk hg hA.ne
  have hl : (st.rd ++ [c]).length = st.rd.length + 1 := by simp
  have ho' : W1.ownsRow B 5 1 (.slice (some ⟨g1, 0, none⟩) (st.rd.length + 1) cap) (st.rd ++ [c]).length (nums .u8 (st.rd ++ [c])) := by rw [hl, nums_snoc]; exact ho
  have hA1 : FlapAt B (W1.setCell ⟨g, 3, none⟩ (.slice (some ⟨g1, 0, none⟩) (st.rd.length + 1) cap)) g { st with rd := st.rd ++ [c] } (.slice (some ⟨g1, 0, none⟩) (st.rd.length + 1) cap) :=
    ⟨blk_set hb 3 _, own_setCell ho' (own_ne ho' hb (by decide)) _, h.base⟩
  exact ⟨hA1, (((FlapK.of_below (below_alloc (Below.refl _ _) o)).drew).grown hA.own hg).set hb h.base 3 _⟩
theorem flapRun_end (b : ByteArray) (k : Nat) (hk : b.size ≤ k) (st : FlapSt) (out : List S37) : flapRun ((Bytes.L b).drop k) st out = (st, out) := by
  rw [List.drop_of_length_le (by have : (Bytes.L b).length = b.size := rfl; omega)]
  rfl
theorem flapRun_err (l : List UInt8) (st : FlapSt) (out : List S37) (h : ¬ st.err = 0) : flapRun l st out = (st, out) := by
  cases l with
  | nil => rfl
  | cons c l => simp only [flapRun]; rw [if_neg h]
theorem flapRun_step (b : ByteArray) (k : Nat) (hk : k < b.size) (st : FlapSt) (out : List S37) (h : st.err = 0) :
    flapRun ((Bytes.L b).drop k) st out = flapRun ((Bytes.L b).drop (k + 1)) (flapByte st (bt b (k : Int))).1 (out ++ (flapByte st (bt b (k : Int))).2) := by
  have hk' : k < (Bytes.L b).length := hk
  have e : bt b (k : Int) = (((Bytes.L b)[k]'hk').toNat : Int) := by
    rw [Bytes.bt_L, Int.toNat_natCast, List.getD_eq_getElem?_getD, List.getElem?_eq_getElem hk']
    rfl
  rw [List.drop_eq_getElem_cons hk', e]
  simp only [flapRun]
  rw [if_pos h]
/-- what Feed hands back and leaves -/
def FlapFed (B g : Nat) (w : World) (fin : FlapSt × List S37) (e : Ending) (W' : World) : Prop :=
  ∃ u v', e = .returned u ∧ k37.R 37 W' w.heap.size (fun _ => True) u fin.2 ∧ FlapAt B W' g fin.1 v' ∧ FlapK B w W'
set_option maxRecDepth 100000 in
set_option maxHeartbeats 4000000 in
theorem flapFeed_calls (B g : Nat) (st : FlapSt) (v : Value) (b : ByteArray) (w : World) (h : FlapAt B w g st v) (hok : FlapOk st) (hb : b.size ≤ 1000000) (hB : B ≤ w.heap.size) :
    Calls Try.prog 12 #[.pointer (some ⟨g, 0, none⟩), .string b] w (FlapFed B g w (flapRun (Bytes.L b) st [])) := by
  obtain ⟨fin, hfin⟩ : ∃ fin, flapRun (Bytes.L b) st [] = fin := ⟨_, rfl⟩
  rw [hfin]
  have H0 : Aside0 (flapRun ((Bytes.L b).drop 0) st [] = fin) := ⟨by rw [List.drop_zero]; exact hfin⟩
  have HA := Aside0.mk h
  have HO := Aside0.mk hok
  clear h hok hfin
  go_enter Try.func12, Try.ntmps12
  go_wp2
  go_loopw [4, 5] (fun u i wr => ∃ (k : Nat) (st : FlapSt) (v : Value) (out : List S37), k ≤ b.size ∧ i = .int .i64 k ∧ Aside0 (flapRun ((Bytes.L b).drop k) st out = fin) ∧ Aside0 (FlapAt B wr g st v) ∧ Aside0 (FlapOk st) ∧ Aside0 (FlapK B w wr) ∧ Aside0 (out.length ≤ k) ∧ Aside0 (k37.R 37 wr w.heap.size (fun _ => True) u out)) (fun _ i _ => b.size - (intOf i).toNat)
  case atStart => exact ⟨0, st, v, [], Nat.zero_le _, rfl, H0, HA, HO, ⟨FlapK.refl _ _⟩, ⟨Nat.le_refl _⟩, ⟨Kd.R_nil _ _ _ _ _⟩⟩
  case round =>
    clear H0 HA HO
    obtain ⟨k, st, v, out, hk, rfl, HR, HA, HO, HK, HL, HU⟩ := hrel
    obtain ⟨q0, q1, q2, q3, q4, q5, q6⟩ := HA.out.cells
    have fz := HA.out.free
    by_cases hlt : k < b.size
    · have hx := bt_at b (k : Int)
      rw [Int.toNat_natCast] at hx
      have hcr := bt_range b (k : Int)
      by_cases he : st.err = 0
      · have HF := Aside0.mk (HR.out.symm.trans (flapRun_step b k hlt st out he)).symm
        have e0 : (st.err == 0) = true := beq_iff_eq.mpr he
        generalize bt b (k : Int) = c at *
        have p1 : ((k : Int) < (b.size : Int)) = True := eq_true (by omega)
        have HLT := Aside0.mk hlt
        have HE := Aside0.mk he
        obtain ⟨i0, hi, hz0, hz1, hz2⟩ := info_parts info5
        have HOW : Aside0 ((wr.alloc (.cells #[.int .u8 c] 5)).drew.ownsRow B 5 1 v st.rd.length (nums .u8 st.rd)) := ⟨HA.out.own.alloc _⟩
        have HNW : Aside0 (∀ j u, [Value.int .u8 c][j]? = some u → (wr.alloc (.cells #[.int .u8 c] 5)).drew.cell? ((⟨wr.heap.size, 0, none⟩ : Addr).add j) = some u) := ⟨by simpa using World.news_of_block (cs := #[Value.int .u8 c]) (t := 5) (fr := (0, 0)) (heap_alloc_new wr (.cells #[.int .u8 c] 5))⟩
        have HLN := Aside0.mk (show st.rd.length ≤ 8198 from HO.out.1)
        have HBW : Aside0 (B ≤ wr.heap.size) := ⟨Nat.le_trans hB HK.out.size⟩
        have HON : Aside0 (∀ u ∈ [Value.int .u8 c], u.oneCell' = true) := ⟨fun u hu => by rw [List.mem_singleton.mp hu]; rfl⟩
        have HL1 : Aside0 (st.rd.length + 1 ≤ maxLen) := ⟨by have := HLN.out; simp only [maxLen]; omega⟩
        have HL2 : Aside0 ((st.rd.length + 1) * 1 ≤ 140737488355328) := ⟨by have := HLN.out; omega⟩
        have HBA : Aside0 (B ≤ (wr.alloc (.cells #[.int .u8 c] 5)).drew.heap.size) := ⟨by have := HBW.out; simp; omega⟩
        have q3a : (wr.alloc (.cells #[.int .u8 c] 5)).cell? ⟨g, 3, none⟩ = some v := (blk_cell (blk_alloc HA.out.blk _) 3).trans rfl
        clear hlt he
        go_upto_region 6 with (fail)
        go_cut [] (fun wc => ∃ v1, Aside0 (FlapAt B wc g { st with rd := st.rd ++ [c] } v1) ∧ Aside0 (FlapK B wr wc) ∧ Aside0 (k37.R 37 wc w.heap.size (fun _ => True) u4 out))
        case first =>
          go_region_law (refine step_append_lies _ rfl (.tmp 25) (.tmp 29) 47 rfl B 5 i0 (.int .u8 0) 1 1 Try.underlying47 hi hz0 hz1 hz2 rfl (Nat.one_pos) v st.rd.length (nums .u8 st.rd) rfl HOW.out ⟨wr.heap.size, 0, none⟩ 1 1 [.int .u8 c] rfl rfl HNW.out HON.out Nat.one_pos HL1.out HL2.out HBA.out _ rfl ?_; intro g1 cap1 W1 hown hgrow hat hlt1; have HB1 := Aside0.mk (blk_grown (blk_drew (blk_alloc HA.out.blk (.cells #[.int .u8 c] 5))) hgrow HA.out.ne); have q3p : W1.cell? ⟨g, 3, none⟩ = some v := (blk_cell HB1.out 3).trans rfl; have f3' := blk_frozen HB1.out 3; have HOWN := Aside0.mk hown; have HGROW := Aside0.mk hgrow; have HAT := Aside0.mk hat; clear hown hgrow hat hlt1)
          all_goals
            go_wp2
            go_meet
            case rel =>
              have hA1 := flapGrown HA.out HBW.out HOWN.out HGROW.out
              exact ⟨_, ⟨hA1.1⟩, ⟨hA1.2⟩, ⟨hA1.2.row HU.out (by decide)⟩⟩
        case rest =>
          obtain ⟨v1, HA1, HK1, HU1⟩ := hcut
          have HR2 := Aside0.mk (show (st.rd ++ [c]).length = st.rd.length + 1 by simp)
          have HOK := HO
          have HFB : Aside0 (flapByte st c = (if (flapStep { st with rd := st.rd ++ [c] } c).2 = 0 ∧ 6 ≤ (flapStep { st with rd := st.rd ++ [c] } c).1.rd.length ∧ ((flapStep { st with rd := st.rd ++ [c] } c).1.rd.length : Int) = 6 + (flapStep { st with rd := st.rd ++ [c] } c).1.size then
              (⟨0, 0, ⟨#[]⟩, [], 0, flapNext (flapStep { st with rd := st.rd ++ [c] } c).1.seq, 0⟩, [⟨(flapStep { st with rd := st.rd ++ [c] } c).1.ch, (flapStep { st with rd := st.rd ++ [c] } c).1.seq, strOfNums ((flapStep { st with rd := st.rd ++ [c] } c).1.rd.drop 6)⟩])
            else ({ (flapStep { st with rd := st.rd ++ [c] } c).1 with err := (flapStep { st with rd := st.rd ++ [c] } c).2 }, []))) := ⟨rfl⟩
          have HBY := Aside0.mk (flapByte_ok st c HO.out HE.out)
          have HSZ := Aside0.mk (flapStep_size st c HO.out HE.out)
          have HRD := Aside0.mk (flapStep_rd { st with rd := st.rd ++ [c] } c).1
          clear q0 q1 q2 q3 q4 q5 q6 fz HA HU HOW HNW HON HL1 HL2 HBA q3a hi hz0 hz1 hz2 i0 HO
          dsimp only at HRD
          generalize st.rd ++ [c] = rd2 at *
          go_upto_region 7 with (fail)
          obtain ⟨A1, cp1, rfl⟩ := own_slice HA1.out.own
          have q3 : wc.cell? ⟨g, 3, none⟩ = some (.slice A1 rd2.length cp1) := (blk_cell HA1.out.blk 3).trans rfl
          go_cut [] (fun wd => Aside0 (FlapAt B wd g { (flapStep { st with rd := rd2 } c).1 with err := (flapStep { st with rd := rd2 } c).2 } (.slice A1 rd2.length cp1)) ∧ Aside0 (FlapK B wc wd))
          case first =>
            have kS := flapStep_calls B g { st with rd := rd2 } (.slice A1 rd2.length cp1) c (rd2.length : Int) wc.drew HA1.out.drew rfl hcr.1 hcr.2
            generalize flapStep { st with rd := rd2 } c = p at *
            go_region_law (go_simp; go_at_call 22; refine kS.mono ?_; rintro e W' ⟨rfl, hA2, hK2⟩; have HA2 := Aside0.mk hA2; have HK2 := Aside0.mk hK2; have q6p : W'.cell? ⟨g, 6, none⟩ = some (.int .i64 p.1.err) := (blk_cell hA2.blk 6).trans rfl; have f6p : W'.frozen? ⟨g, 6, none⟩ = false := blk_frozen hA2.blk 6; clear hA2 hK2)
            all_goals
              go_wp2
              go_meet
              case rel => exact ⟨⟨HA2.out.set { p.1 with err := p.2 } 6 _ rfl rfl⟩, ⟨(((FlapK.refl B wc).drew).trans HK2.out).set HA2.out.blk HA2.out.base 6 _⟩⟩
          case rest =>
            obtain ⟨HA2, HK2⟩ := hcut
            have HK3 := Aside0.mk (HK.out.trans (HK1.out.trans HK2.out))
            have HU2 := Aside0.mk (HK2.out.row HU1.out (by decide))
            clear HK HK1 HK2 HU1 HA1
            generalize flapStep { st with rd := rd2 } c = p at *
            obtain ⟨⟨pch, pseq, pdata, prd, psize, pwant, perr⟩, pe⟩ := p
            dsimp only at HA2 HFB HSZ HRD
            obtain rfl := HRD.out
            clear HRD q3
            obtain ⟨q0, q1, q2, q3, q4, q5, q6⟩ := HA2.out.cells
            have fz := HA2.out.free
            dsimp only at q0 q1 q2 q3 q4 q5 q6
            have HL2 := HL
            by_cases ep : pe = 0
            · subst ep
              by_cases l6 : 6 ≤ prd.length
              · obtain ⟨s1, s2, s3⟩ := HSZ.out rfl (by have := HR2.out; omega)
                have w6 : IntKind.i64.wrap (6 + psize) = 6 + psize := by rw [IntKind.wrap_i64]; omega
                by_cases full : (prd.length : Int) = 6 + psize
                · have HV : Aside0 (flapByte st c = (⟨0, 0, ⟨#[]⟩, [], 0, flapNext pseq, 0⟩, [⟨pch, pseq, strOfNums (prd.drop 6)⟩])) := ⟨by rw [HFB.out]; exact if_pos ⟨rfl, l6, full⟩⟩
                  have dl : decide ((6 : Int) ≤ (prd.length : Int)) = true := decide_eq_true (by omega)
                  have df : ((prd.length : Int) == 6 + psize) = true := beq_iff_eq.mpr full
                  obtain ⟨Ax, cx, ex, hle, hrd⟩ := own_reads_of_le (enc := Value.int .u8) (d := 0) HA2.out.own
                  obtain ⟨rfl, _, rfl⟩ := Value.slice.inj ex
                  obtain ⟨i0, hi, hz0, hz1, hz2⟩ := info_parts info5
                  obtain ⟨A2, k1, k2, k3⟩ := print_drop_of (P := Try.prog) (Value.int .u8) 0 47 5 .i64 Try.underlying47 hi hz1 A1 cp1 prd 6 (by omega) (by omega) hle
                  have k5 := fun m => string_of_reads (P := Try.prog) (c := cp1 - (6 : Int).toNat) (dst := 9) Try.underlying47 Try.underlying5 Try.underlying9 (k2 (wc.drewN m) hrd)
                  have hsx : strOfNums (prd.drop (6 : Int).toNat) = strOfNums (prd.drop 6) := rfl
                  rw [hsx] at k5
                  generalize strOfNums (prd.drop 6) = sx at *
                  generalize (prd.drop (6 : Int).toNat).length = nx at *
                  generalize cp1 - (6 : Int).toNat = cy at *
                  clear full l6 s1 s2 s3 ex hle hrd hi hz0 hz1 hz2 i0 k2 k3 hsx
                  go_wp2
                  go_quiet (fail)
                  go_upto_region 9 with (fail)
                  go_cut [] (fun we => Aside0 (FlapAt B we g ⟨pch, pseq, sx, prd, psize, pwant, 0⟩ (.slice A1 prd.length cp1)) ∧ Aside0 (FlapK B w we) ∧ Aside0 (k37.R 37 we w.heap.size (fun _ => True) u4 out))
                  case first =>
                    go_wp2
                    go_meet
                    case rel =>
                      have hA := (HA2.out.drewN nq).set ⟨pch, pseq, sx, prd, psize, pwant, 0⟩ 2 (.string sx) rfl rfl
                      have hK : FlapK B wc _ := ((FlapK.refl B wc).drewN nq).set (HA2.out.drewN nq).blk HA2.out.base 2 (.string sx)
                      exact ⟨⟨hA⟩, ⟨HK3.out.trans hK⟩, ⟨hK.row HU2.out (by decide)⟩⟩
                  case rest =>
                    obtain ⟨HA4, HK4, HU4⟩ := hcut
                    clear q0 q1 q2 q3 q4 q5 q6 fz HA2 HK3 HU2 k1 k5 HFB HSZ
                    obtain ⟨q0, q1, q2, q3, q4, q5, q6⟩ := HA4.out.cells
                    have fz := HA4.out.free
                    dsimp only at q0 q1 q2 q3 q4 q5 q6
                    have HS4 : Aside0 (w.heap.size ≤ wc.heap.size) := ⟨HK4.out.size⟩
                    have HL4 : Aside0 ((out.length + 1) * 32 ≤ 140737488355328) := ⟨by have := HL.out; omega⟩
                    go_upto_region 11 with ((with_reducible refine gate_builtin (b := .append) (xs := #[.tmp 82, .tmp 87]) rfl ?_); at_builtin; refine Kd.R_append k37 (w0 := wc) w.heap.size rfl (.tmp 82) (.tmp 87) 27 37 (.agg #[(.int .i64 0), (.int .i64 0), (.string ⟨#[]⟩)]) 32 rfl Try.underlying27 info37 rfl (by decide) (by decide) u4 out (⟨pch, pseq, sx⟩ : S37) [.int .i64 pch, .int .i64 pseq, .string sx] (fun _ => True) (fun _ => False) rfl rfl ?aP (fun _ hk => hk.elim) ?aF ?aO ?aB ?aS ?aL ?_; (case aP => exact k37_mkM _ _ _ (⟨pch, pseq, sx⟩ : S37)); (case aF => exact fun _ _ => trivial); (case aO => exact HU4.out); (case aB => exact Below.refl _ _); (case aS => exact HS4.out); (case aL => exact HL4.out); intro u5 w2 ho hb hg hat; have HU5 := Aside0.mk ho; have HG5 := Aside0.mk hg; clear ho hb hg hat)
                    have HA5 : Aside0 (FlapAt B w2 g ⟨pch, pseq, sx, prd, psize, pwant, 0⟩ (.slice A1 prd.length cp1)) := ⟨HA4.out.grown HG5.out (fun i hi => by
                      obtain ⟨cells, hc⟩ := Kd.R_typed HU4.out i hi
                      exact ⟨cells, _, hc, by decide, by decide⟩)⟩
                    have HK5 : Aside0 (FlapK B w w2) := ⟨HK4.out.new HG5.out (fun i hi => Kd.R_base HU4.out i hi)⟩
                    clear q0 q1 q2 q3 q4 q5 q6 fz HA4 HK4 HU4 HG5
                    obtain ⟨q0, q1, q2, q3, q4, q5, q6⟩ := HA5.out.cells
                    have fz := HA5.out.free
                    dsimp only at q0 q1 q2 q3 q4 q5 q6
                    have KN := fun W => flap_Next.calls pseq _ W (flapNext_f pseq)
                    go_wp2_with (go_at_call 20; refine (KN _).mono ?_; rintro e w' ⟨rfl, ⟨nd, rfl⟩⟩)
                    go_roundw
                    case rel =>
                      have a0 := HA5.out.drewN nd
                      have a1 := a0.set ⟨pch, pseq, sx, prd, psize, flapNext pseq, 0⟩ 5 (.int .i64 (flapNext pseq)) rfl rfl
                      have a2 := a1.set ⟨0, pseq, sx, prd, psize, flapNext pseq, 0⟩ 0 (.int .i64 0) rfl rfl
                      have a3 := a2.set ⟨0, 0, sx, prd, psize, flapNext pseq, 0⟩ 1 (.int .i64 0) rfl rfl
                      have a4 := a3.set ⟨0, 0, ⟨#[]⟩, prd, psize, flapNext pseq, 0⟩ 2 (.string ⟨#[]⟩) rfl rfl
                      have a5 := a4.setNil ⟨0, 0, ⟨#[]⟩, [], psize, flapNext pseq, 0⟩ rfl rfl
                      have a6 := a5.set ⟨0, 0, ⟨#[]⟩, [], 0, flapNext pseq, 0⟩ 4 (.int .i64 0) rfl rfl
                      have kk := (((((((FlapK.refl B w2).drewN nd).set a0.blk a0.base 5 (.int .i64 (flapNext pseq))).set a1.blk a1.base 0 (.int .i64 0)).set a2.blk a2.base 1 (.int .i64 0)).set a3.blk a3.base 2 (.string ⟨#[]⟩)).set a4.blk a4.base 3 (.slice none 0 0)).set a5.blk a5.base 4 (.int .i64 0)
                      exact ⟨k + 1, _, _, out ++ [(⟨pch, pseq, sx⟩ : S37)], by have := HLT.out; omega, by go_num, ⟨by have := HF.out; rw [HV.out] at this; exact this⟩, ⟨a6⟩, ⟨by have := HBY.out; rw [HV.out] at this; exact this⟩, ⟨HK5.out.trans kk⟩, ⟨by have := HL.out; rw [List.length_append, List.length_singleton]; omega⟩, ⟨kk.row HU5.out (by decide)⟩⟩
                    case measure => have := HLT.out; simp [intOf]; omega
                · have HV : Aside0 (flapByte st c = (⟨pch, pseq, pdata, prd, psize, pwant, 0⟩, [])) := ⟨by rw [HFB.out]; exact if_neg (fun h => full h.2.2)⟩
                  have dl : decide ((6 : Int) ≤ (prd.length : Int)) = true := decide_eq_true (by omega)
                  have df : ((prd.length : Int) == 6 + psize) = false := beq_eq_false_iff_ne.mpr full
                  clear full l6 s1 s2 s3
                  go_wp2
                  go_quiet (fail)
                  go_wp2
                  go_roundw
                  case rel => exact ⟨k + 1, _, _, out, by have := HLT.out; omega, by go_num, ⟨by have := HF.out; rw [HV.out, List.append_nil] at this; exact this⟩, ⟨HA2.out.drewN _⟩, ⟨by have := HBY.out; rw [HV.out] at this; exact this⟩, ⟨HK3.out.drewN _⟩, ⟨by have := HL.out; omega⟩, ⟨Kd.R_drewN HU2.out _⟩⟩
                  case measure => have := HLT.out; simp [intOf]; omega
              · have HV : Aside0 (flapByte st c = (⟨pch, pseq, pdata, prd, psize, pwant, 0⟩, [])) := ⟨by rw [HFB.out]; exact if_neg (fun h => l6 h.2.1)⟩
                have dl : decide ((6 : Int) ≤ (prd.length : Int)) = false := decide_eq_false (by omega)
                clear l6
                go_wp2
                go_quiet (fail)
                go_wp2
                go_roundw
                case rel => exact ⟨k + 1, _, _, out, by have := HLT.out; omega, by go_num, ⟨by have := HF.out; rw [HV.out, List.append_nil] at this; exact this⟩, ⟨HA2.out.drewN _⟩, ⟨by have := HBY.out; rw [HV.out] at this; exact this⟩, ⟨HK3.out.drewN _⟩, ⟨by have := HL.out; omega⟩, ⟨Kd.R_drewN HU2.out _⟩⟩
                case measure => have := HLT.out; simp [intOf]; omega
            · have HV : Aside0 (flapByte st c = (⟨pch, pseq, pdata, prd, psize, pwant, pe⟩, [])) := ⟨by rw [HFB.out]; exact if_neg (fun h => ep h.1)⟩
              have de : (pe == 0) = false := beq_eq_false_iff_ne.mpr ep
              clear ep
              go_wp2
              go_quiet (fail)
              go_wp2
              go_roundw
              case rel => exact ⟨k + 1, _, _, out, by have := HLT.out; omega, by go_num, ⟨by have := HF.out; rw [HV.out, List.append_nil] at this; exact this⟩, ⟨HA2.out.drewN _⟩, ⟨by have := HBY.out; rw [HV.out] at this; exact this⟩, ⟨HK3.out.drewN _⟩, ⟨by have := HL.out; omega⟩, ⟨Kd.R_drewN HU2.out _⟩⟩
              case measure => have := HLT.out; simp [intOf]; omega
      · have HF := HR.out
        rw [flapRun_err _ _ _ he] at HF
        subst HF
        have e0 : (st.err == 0) = false := beq_eq_false_iff_ne.mpr he
        clear he hx hcr HR
        go_wp2
        go_ret
        exact ⟨u4, v, rfl, HU.out, HA.out, HK.out⟩
    · have HF := HR.out
      rw [flapRun_end b k (by omega)] at HF
      subst HF
      clear HR
      go_wp2
      go_ret
      exact ⟨u4, v, rfl, HU.out, HA.out, HK.out⟩

end Go.Proofs.Ythncdeeakhilfaa.H
