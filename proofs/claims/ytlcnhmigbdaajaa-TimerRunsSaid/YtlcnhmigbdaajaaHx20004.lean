-- written by hp.py for this claim, out of the kit's printer and texts of my own
import Derived.Test.YtlcnhmigbdaajaaHx0
import Derived.Test.YtlcnhmigbdaajaaHx20001
import Derived.Test.YtlcnhmigbdaajaaHx20003
import Derived.Lib.Hide
import Derived.Deep.LoopGhost
import Derived.Deep.DeepCutAuto
import Derived.Deep.RegionLaw
import Derived.Deep.AppendLies
namespace Go.Proofs.Ytlcnhmigbdaajaa.H
open Go.RowKit Go.Proofs.YtlcnhmigbdaajaaW.PrintWords Go.Proofs.YtlcnhmigbdaajaaW.PrintLast Go.Proofs.YtlcnhmigbdaajaaW.PrintMore
attribute [local go_sem] max2_int min2_int max_two min_two max_three min_three max_four min_four   -- for this text's walks alone
set_option linter.unusedVariables false
set_option linter.unusedSimpArgs false

theorem infoAlarm : (Try.prog.info? 58).map (fun i => (i.zero, i.size, i.bytes)) = some (some (.agg #[.int .i64 0, .int .i64 0, .string ⟨#[]⟩]), 3, 32) := by kernel_rfl
theorem underAlarms : Try.prog.underlying 52 = some (.slice 58) := by kernel_rfl
theorem assertAlarm (v : Value) (w : World) : (Instr.typeAssert (.iface 58 v) 20 58 true).run Try.prog w = .ok (.tuple #[v, .bool true]) w := by kernel_rfl
theorem alCells_snoc (l : List S58) (x : S58) : alCells (l ++ [x]) = alCells l ++ [.int .i64 x.f0, .int .i64 x.f1, .string x.f2] := by
  simp only [alCells, List.flatMap_append, List.flatMap_cons, List.flatMap_nil, List.append_nil, alEnc]
/-- the box of an alarm that was given, then the block of what is appended -/
abbrev alObj (x : S58) : Obj := .cells #[.int .i64 x.f0, .int .i64 x.f1, .string x.f2] 58
theorem timGrown {B g g1 cap : Nat} {W wr W1 : World} {l : List S58} {last : Int} {v : Value} {x : S58} (h : TimAt B wr g l last v) (hw : Below W.heap.size W wr)
    (ho : W1.ownsRow B 58 3 (.slice (some ⟨g1, 0, none⟩) (l.length + 1) cap) (l.length + 1) (alCells l ++ [.int .i64 x.f0, .int .i64 x.f1, .string x.f2])) (hg : wr.grownBy W1 v.ownBlock) :
    TimAt B (W1.setCell ⟨g, 0, none⟩ (.slice (some ⟨g1, 0, none⟩) (l.length + 1) cap)) g (l ++ [x]) last (.slice (some ⟨g1, 0, none⟩) (l.length + 1) cap) ∧ TimK B W (W1.setCell ⟨g, 0, none⟩ (.slice (some ⟨g1, 0, none⟩) (l.length + 1) cap)) := by
  have hb := blk_grown h.blk hg h.ne
  have hl : (l ++ [x]).length = l.length + 1 := by simp
  have ho' : AlRow B W1 (.slice (some ⟨g1, 0, none⟩) (l.length + 1) cap) (l ++ [x]) := by
    show World.ownsRow _ _ _ _ _ _ _
    rw [hl, alCells_snoc]
    exact ho
  exact ⟨⟨blk_set hb 0 _, own_setCell ho' (own_ne ho' hb (by decide)) _, h.base⟩, ((TimK.of_below hw).grown h.own hg).set hb h.base 0 _⟩
/-- behind a Push: one more -/
def TimPushed (B g : Nat) (W : World) (l : List S58) (last : Int) (e : Ending) (W' : World) : Prop := e = .returned (.tuple #[]) ∧ ∃ r c, TimAt B W' g l last (.slice (some ⟨r, 0, none⟩) l.length c) ∧ TimK B W W'
set_option maxRecDepth 100000 in
set_option maxHeartbeats 1000000 in
theorem alPush_calls (B g : Nat) (l : List S58) (last : Int) (v : Value) (x : S58) (W : World) (h : TimAt B W g l last v) (hl : l.length ≤ 1000000) (hB : B ≤ W.heap.size) :
    Calls Try.prog 56 #[.pointer (some ⟨g, 0, none⟩), .iface 58 (.agg #[.int .i64 x.f0, .int .i64 x.f1, .string x.f2])] W (TimPushed B g W (l ++ [x]) last) := by
  have q0 := h.cell
  have f0 := h.free 0
  have HA := Aside0.mk h
  have HA1 := Aside0.mk (h.below (below_alloc (Below.refl _ _) (alObj x)))
  have hB2 : Below W.heap.size W ((W.alloc (alObj x)).alloc (alObj x)).drew := below_drew (below_alloc (below_alloc (Below.refl _ _) _) _)
  have HA2 := Aside0.mk (h.below hB2)
  have HB2 := Aside0.mk hB2
  obtain ⟨i0, hi, hz0, hz1, hz2⟩ := info_parts infoAlarm
  have HNW : Aside0 (∀ j u, [Value.int .i64 x.f0, .int .i64 x.f1, .string x.f2][j]? = some u → ((W.alloc (alObj x)).alloc (alObj x)).drew.cell? ((⟨W.heap.size + 1, 0, none⟩ : Addr).add j) = some u) := ⟨by
    have e : (W.alloc (alObj x)).heap.size = W.heap.size + 1 := by simp
    have := World.news_of_block (cs := #[Value.int .i64 x.f0, .int .i64 x.f1, .string x.f2]) (t := 58) (fr := (0, 0)) (blk_drew (heap_alloc_new (W.alloc (alObj x)) (alObj x)))
    rw [e] at this
    exact this⟩
  have HON : Aside0 (∀ u ∈ [Value.int .i64 x.f0, .int .i64 x.f1, .string x.f2], u.oneCell' = true) := ⟨fun u hu => by simp only [List.mem_cons, List.mem_nil_iff, or_false] at hu; rcases hu with rfl | rfl | rfl <;> rfl⟩
  have HL1 : Aside0 (l.length + 1 ≤ maxLen) := ⟨by simp only [maxLen]; omega⟩
  have HL2 : Aside0 ((l.length + 1) * 32 ≤ 140737488355328) := ⟨by omega⟩
  have HBA : Aside0 (B ≤ ((W.alloc (alObj x)).alloc (alObj x)).drew.heap.size) := ⟨by simp; omega⟩
  have HI := Aside0.mk (And.intro hi (And.intro hz0 (And.intro hz1 hz2)))
  clear hi hz0 hz1 hz2
  clear h hB2 hl hB
  have hta := assertAlarm
  go_enter Try.func56, Try.ntmps56
  go_upto_region 2 with (fail)
  clear hta
  have q1 : (W.alloc (.cells #[.int .i64 x.f0, .int .i64 x.f1, .string x.f2] 58)).cell? ⟨g, 0, none⟩ = some v := HA1.out.cell
  have q2 : ((W.alloc (.cells #[.int .i64 x.f0, .int .i64 x.f1, .string x.f2] 58)).alloc (.cells #[.int .i64 x.f0, .int .i64 x.f1, .string x.f2] 58)).cell? ⟨g, 0, none⟩ = some v := (blk_cell (blk_alloc HA1.out.blk _) 0).trans rfl
  have f1 := HA1.out.free 0
  have c0 : (W.alloc (.cells #[.int .i64 x.f0, .int .i64 x.f1, .string x.f2] 58)).cell? ⟨W.heap.size, 0, none⟩ = some (.int .i64 x.f0) := (blk_cell (heap_alloc_new W (alObj x)) 0).trans rfl
  have c1 : (W.alloc (.cells #[.int .i64 x.f0, .int .i64 x.f1, .string x.f2] 58)).cell? ⟨W.heap.size, 1, none⟩ = some (.int .i64 x.f1) := (blk_cell (heap_alloc_new W (alObj x)) 1).trans rfl
  have c2 : (W.alloc (.cells #[.int .i64 x.f0, .int .i64 x.f1, .string x.f2] 58)).cell? ⟨W.heap.size, 2, none⟩ = some (.string x.f2) := (blk_cell (heap_alloc_new W (alObj x)) 2).trans rfl
  go_region_law (refine step_append_lies _ rfl (.tmp 15) (.tmp 17) 52 rfl B 58 i0 (.agg #[.int .i64 0, .int .i64 0, .string ⟨#[]⟩]) 3 32 underAlarms HI.out.1 HI.out.2.1 HI.out.2.2.1 HI.out.2.2.2 rfl (by decide) v l.length (alCells l) rfl HA2.out.own ⟨W.heap.size + 1, 0, none⟩ 1 1 [.int .i64 x.f0, .int .i64 x.f1, .string x.f2] rfl rfl HNW.out HON.out Nat.one_pos HL1.out HL2.out HBA.out _ rfl ?_; intro g1 cap1 W1 hown hgrow hat hlt1; have HB1 := Aside0.mk (blk_grown HA2.out.blk hgrow HA2.out.ne); have q3p : W1.cell? ⟨g, 0, none⟩ = some v := (blk_cell HB1.out 0).trans rfl; have f3' := blk_frozen HB1.out 0; have HOWN := Aside0.mk hown; have HGROW := Aside0.mk hgrow; have HAT := Aside0.mk hat; clear hown hgrow hat hlt1)
  all_goals
    go_wp2
    go_end0
    obtain ⟨h1, h2⟩ := timGrown HA2.out HB2.out HOWN.out HGROW.out
    refine ⟨rfl, g1, cap1, ?_, h2⟩
    rw [show (l ++ [x]).length = l.length + 1 by simp]
    exact h1
/-- a row's front -/
theorem AlRow.front {B r n c : Nat} {W : World} {l : List S58} {x : S58} (h : AlRow B W (.slice (some ⟨r, 0, none⟩) n c) (l ++ [x])) : AlRow B W (.slice (some ⟨r, 0, none⟩) l.length c) l := by
  obtain ⟨h1, h2⟩ := h
  have hl : (l ++ [x]).length = l.length + 1 := by simp
  refine ⟨alCells_length l, ?_⟩
  rcases h2 with ⟨h2, _⟩ | ⟨g, cap, cur, he, hb, hh, hn, hcm, hs, ht⟩
  · cases h2
  · injection he with e1 e2 e3
    injection e1 with e1
    injection e1 with e1
    subst e1 e2 e3
    rw [hl] at hn ht
    refine .inr ⟨r, c, cur, rfl, hb, hh, by omega, hcm, hs, ?_⟩
    rw [alCells_snoc] at ht
    have h3 := alCells_length l
    have : (cur.toList.take ((l.length + 1) * 3)).take (l.length * 3) = alCells l := by rw [ht, List.take_append_of_le_length (by omega), List.take_of_length_le (by omega)]
    rwa [List.take_take, Nat.min_eq_left (by omega)] at this
set_option maxRecDepth 100000 in
set_option maxHeartbeats 1000000 in
theorem alPop_calls (B g r n c : Nat) (l : List S58) (last : Int) (x : S58) (W : World) (h : TimAt B W g (l ++ [x]) last (.slice (some ⟨r, 0, none⟩) n c)) (hn : n = l.length + 1) (hl : l.length ≤ 1000000) :
    Calls Try.prog 55 #[.pointer (some ⟨g, 0, none⟩)] W fun e W' => e = .returned (.iface 58 (.agg #[.int .i64 x.f0, .int .i64 x.f1, .string x.f2])) ∧ TimAt B W' g l last (.slice (some ⟨r, 0, none⟩) l.length c) ∧ TimK B W W' := by
  subst hn
  have q0 := h.cell
  have f0 := h.free 0
  obtain ⟨p0, p1, p2⟩ := h.own.at l.length x (by simp)
  have q1 : (W.alloc (.cells #[.int .i64 x.f0, .int .i64 x.f1, .string x.f2] 58)).cell? ⟨g, 0, none⟩ = some (.slice (some ⟨r, 0, none⟩) (l.length + 1) c) := (blk_cell (blk_alloc h.blk _) 0).trans rfl
  have f1 : (W.alloc (.cells #[.int .i64 x.f0, .int .i64 x.f1, .string x.f2] 58)).frozen? ⟨g, 0, none⟩ = false := blk_frozen (blk_alloc h.blk _) 0
  have hz : ((W.alloc (.cells #[.int .i64 x.f0, .int .i64 x.f1, .string x.f2] 58)).setCell ⟨g, 0, none⟩ (.slice (some ⟨r, 0, none⟩) l.length c)).heap[W.heap.size]? = some (.cells #[.int .i64 x.f0, .int .i64 x.f1, .string x.f2] 58 (0, 0)) := by
    rw [Below.heap_setCell _ _ _ _ (by have := h.lt; intro e; simp only at e; omega)]
    exact heap_alloc_new _ _
  have z0 := (blk_cell hz 0).trans rfl
  have z1 := (blk_cell hz 1).trans rfl
  have z2 := (blk_cell hz 2).trans rfl
  clear hz
  have HA := Aside0.mk h
  have hcap : l.length + 1 ≤ c := by
    rcases h.own.2 with ⟨h2, _⟩ | ⟨g, cap, cur, he, hb, hh, hn', _⟩
    · cases h2
    · injection he with e1 e2 e3
      rw [← e2, ← e3] at hn'
      exact hn'
  clear h
  go_enter Try.func55, Try.ntmps55
  go_wp2_with fail
  go_ret
  have hA := HA.out.below (below_alloc (Below.refl _ _) (alObj x))
  have hr := hA.own.front
  exact ⟨rfl, ⟨blk_set hA.blk 0 _, own_setCell hr (own_ne hr hA.blk (by decide)) _, hA.base⟩, (TimK.of_below (below_alloc (Below.refl _ _) (alObj x))).set hA.blk hA.base 0 _⟩

end Go.Proofs.Ytlcnhmigbdaajaa.H
