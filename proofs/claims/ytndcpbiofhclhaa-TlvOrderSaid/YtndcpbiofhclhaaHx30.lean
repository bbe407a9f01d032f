-- written by hp.py for this claim, out of the kit's printer and texts of my own
import Derived.Test.YtndcpbiofhclhaaHx0
import Derived.Test.YtndcpbiofhclhaaHx25
import Derived.Test.YtndcpbiofhclhaaHx32
import Derived.RangeFuncNested
import Derived.RangeFuncBound
import Derived.RangeFuncLeaves
import Derived.Shelf.Abstract
import Derived.Shelf.RegionOpen
import Derived.WalkKit
import Derived.OwnWalkIn
import Derived.TacticsInMore
import Derived.LoopNIn
import Derived.LoopIn
import Derived.Maps.AppendAt
import Derived.Test.YtndcpbiofhclhaaTlvFirst
namespace Go.Proofs.Ytndcpbiofhclhaa.H
open Go.RowKit Go.Proofs.YtndcpbiofhclhaaW.PrintWords Go.Proofs.YtndcpbiofhclhaaW.PrintLast Go.Proofs.YtndcpbiofhclhaaW.PrintMore
attribute [local go_sem] max2_int min2_int max_two min_two max_three min_three max_four min_four   -- for this text's walks alone
set_option linter.unusedVariables false
set_option linter.unusedSimpArgs false

open Go.Shelf Go.Proofs.Ytndcpbiofhclhaa.Tlv Go.Proofs.Ytndcpbiofhclhaa.Bytes in
abbrev tlvEnc (x : TItem) : Array Value := #[.agg #[.int .i64 x.1, .string x.2.1], .int .i64 x.2.2]
section
open Go.Shelf Go.Proofs.Ytndcpbiofhclhaa.Tlv Go.Proofs.Ytndcpbiofhclhaa.Bytes
theorem grownBy_drewN (W : World) (m : Nat) : W.grownBy (W.drewN m) none := ⟨rfl, rfl, rfl, Nat.le_refl _, fun _ _ _ => rfl⟩
set_option maxRecDepth 100000 in
set_option maxHeartbeats 4000000 in
theorem tlvIter_in (n : Nat) (hn : 1 ≤ n) (l Bn n₀ : Nat) (s : ByteArray) (J Jx : List TItem → World → Prop)
    (hJ : ∀ pre W m, J pre W → J pre (W.drewN m))
    (hY : ∀ pre x W, J pre W → pre.length < (items s).length → YieldAt Fence.wide (n - 1) Try.prog l (tlvEnc x) W fun e W' =>
      (e = .returned (.bool true) ∧ J (pre ++ [x]) W' ∧ Below n₀ W W') ∨ (e = .returned (.bool false) ∧ Jx (pre ++ [x]) W'))
    (W : World) (hBn : W.cell? ⟨Bn, 0, none⟩ = some (.string s)) (h0 : J [] W) :
    CallsIn Fence.wide n Try.prog 45 #[.func (.yield l) #[] #[], .pointer (some ⟨Bn, 0, none⟩)] W fun e W' => (∃ v, e = .returned v) ∧
      ((∃ ys, ys = items s ∧ J ys W') ∨ (∃ pre, pre <+: items s ∧ Jx pre W')) := by
  refine callsIn_of_wp Try.func45 rfl trivial ?_ rfl
  simp only [Try.ntmps45, List.size_toArray, List.length_cons, List.length_nil, Nat.reduceAdd, Nat.reduceSub, Array.replicate_succ, Array.replicate_zero, List.push_toArray, List.append_toArray, List.nil_append, List.cons_append]
  gi_wp2
  gi_loopw [3] (fun p wr => ∃ (pre : List TItem) (t : ByteArray), p = .string t ∧ items s = pre ++ items t ∧ J pre wr)
    (fun p _ => match p with | .string t => t.size | _ => 0)
  case atStart =>
    exact ⟨[], s, rfl, rfl, h0⟩
  case round =>
    obtain ⟨pre, t, rfl, hx, hJs⟩ := hrel
    by_cases c0 : t.size = 0
    · have c1 : t.toList = ([] : List UInt8) := by rw [toList_L]; exact List.length_eq_zero_iff.mp c0
      have b0 : (t.toList == ([] : List UInt8)) = true := beq_iff_eq.mpr c1
      have b1 : (t.toList != ([] : List UInt8)) = false := bne_eq_false_iff_eq.mpr c1
      clear c1
      gi_wp2
      go_end0
      exact ⟨⟨_, rfl⟩, .inl ⟨pre, by rw [hx, items_nil c0, List.append_nil], hJs⟩⟩
    · have c1 : ¬ t.toList = ([] : List UInt8) := by rw [toList_L]; exact fun e => c0 (by rw [size_L, e]; rfl)
      have b0 : (t.toList == ([] : List UInt8)) = false := beq_eq_false_iff_ne.mpr c1
      have b1 : (t.toList != ([] : List UInt8)) = true := bne_iff_ne.mpr c1
      clear c1
      by_cases c2 : t.size < 2
      · have d0 : decide ((t.size : Int) < 2) = true := decide_eq_true (by omega)
        have d1 : decide (t.size < 2) = true := decide_eq_true c2
        have hi := items_short c0 c2
        obtain ⟨fn, tmps, assign, body, hy, hR⟩ := hY pre (0, ⟨#[]⟩, 110) wr hJs (by rw [hx, hi]; simp)
        dsimp only [tlvEnc] at hy
        have hz := Try.zeroValue75
        gi_wp2
        refine hR.mono ?_
        rintro e W3 (⟨rfl, hJ3, hk3⟩ | ⟨rfl, hJx3⟩)
        · gi_wp2
          refine bodyPost_ret (results_none rfl _ _ _) rfl ?_
          exact ⟨⟨_, rfl⟩, .inl ⟨_, by rw [hx, hi], hJ3⟩⟩
        · gi_wp2
          refine bodyPost_ret (results_none rfl _ _ _) rfl ?_
          exact ⟨⟨_, rfl⟩, .inr ⟨_, by rw [hx, hi]; exact List.prefix_refl _, hJx3⟩⟩
      · have d0 : decide ((t.size : Int) < 2) = false := decide_eq_false (by omega)
        have d1 : decide (t.size < 2) = false := decide_eq_false c2
        have g2 : ((2 : Int) ≤ (t.size : Int)) = True := eq_true (by omega)
        have g2' : decide ((2 : Int) ≤ (t.size : Int)) = true := decide_eq_true (by omega)
        have hN : tlv_Num.f 100 (t.extract 0 2) = some (num (L (t.extract 0 2)) 0, 0) := by
          rw [Num_eq _ 100 (by omega)]
          unfold numAns
          rw [if_pos (by rw [ByteArray.size_extract]; omega)]
        obtain ⟨nv, hnv⟩ : ∃ nv, num (L (t.extract 0 2)) 0 = nv := ⟨_, rfl⟩
        obtain ⟨fv, fm, fe, hF'⟩ : ∃ fv fm fe, first (t.extract 2 t.size) 2 = (fv, fm, fe) := ⟨_, _, _, rfl⟩
        have hF : tlv_First.f 100 (t.extract 2 t.size) 2 = some (fv, fm, fe) := by rw [First_eq _ _ 100 (by omega), hF']
        have hstep : tstep t = ((nv, fv, fe), fm) := by unfold tstep; rw [hnv, hF']
        rw [hnv] at hN
        have kN := fun W => (callsIn_wide (n := n - 1)).2 (tlv_Num.calls 100 _ _ _ W hN)
        have kF := fun W => (callsIn_wide (n := n - 1)).2 (tlv_First.calls 100 _ _ _ _ _ W hF)
        clear hN hF hF' hnv
        by_cases c3 : fe = 0
        · subst c3
          have hs2 : (tstep t).1.2.2 = 0 := by rw [hstep]
          have hi := items_ok c2 hs2
          have hle := tstep_less hs2
          rw [hstep] at hi hle
          have hlen : pre.length < (items s).length := by rw [hx, hi]; simp
          gi_wp2_with (first | (refine ⟨trivial, ?_⟩; gi_at_call 25; refine (kN _).mono ?_; rintro e w' ⟨rfl, ⟨nd1, rfl⟩⟩) | (refine ⟨trivial, ?_⟩; gi_at_call 32; refine (kF _).mono ?_; rintro e w' ⟨rfl, ⟨nd2, rfl⟩⟩; obtain ⟨fn, tmps, assign, body, hy, hR⟩ := hY pre (nv, fv, 0) (wr.drewN (nd1 + nd2)) (hJ _ _ _ hJs) hlen; dsimp only [tlvEnc] at hy))
          refine hR.mono ?_
          rintro e W3 (⟨rfl, hJ3, hk3⟩ | ⟨rfl, hJx3⟩)
          · gi_wp2
            go_roundw
            case rel => exact ⟨pre ++ [(nv, fv, 0)], fm, rfl, by rw [hx, hi, List.append_assoc]; rfl, hJ3⟩
            case measure => exact hle
          · gi_wp2
            refine bodyPost_ret (results_none rfl _ _ _) rfl ?_
            exact ⟨⟨_, rfl⟩, .inr ⟨_, by rw [hx, hi]; exact ⟨items fm, by rw [List.append_assoc]; rfl⟩, hJx3⟩⟩
        · have hs2 : ¬ (tstep t).1.2.2 = 0 := by rw [hstep]; exact c3
          have hi := items_bad c2 hs2
          rw [hstep] at hi
          have hlen : pre.length < (items s).length := by rw [hx, hi]; simp
          have e0 : (fe == 0) = false := beq_eq_false_iff_ne.mpr c3
          have e1 : (fe != 0) = true := bne_iff_ne.mpr c3
          gi_wp2_with (first | (refine ⟨trivial, ?_⟩; gi_at_call 25; refine (kN _).mono ?_; rintro e w' ⟨rfl, ⟨nd1, rfl⟩⟩) | (refine ⟨trivial, ?_⟩; gi_at_call 32; refine (kF _).mono ?_; rintro e w' ⟨rfl, ⟨nd2, rfl⟩⟩; obtain ⟨fn, tmps, assign, body, hy, hR⟩ := hY pre (nv, fv, fe) (wr.drewN (nd1 + nd2)) (hJ _ _ _ hJs) hlen; dsimp only [tlvEnc] at hy))
          refine hR.mono ?_
          rintro e W3 (⟨rfl, hJ3, hk3⟩ | ⟨rfl, hJx3⟩)
          · gi_wp2
            refine bodyPost_ret (results_none rfl _ _ _) rfl ?_
            exact ⟨⟨_, rfl⟩, .inl ⟨_, by rw [hx, hi], hJ3⟩⟩
          · gi_wp2
            refine bodyPost_ret (results_none rfl _ _ _) rfl ?_
            exact ⟨⟨_, rfl⟩, .inr ⟨_, by rw [hx, hi]; exact List.prefix_refl _, hJx3⟩⟩
theorem tlvStops (n : Nat) (hn : 1 ≤ n) (Bn n₀ : Nat) (s : ByteArray) (w : World) (hBn : Bn < w.heap.size) (hc : w.cell? ⟨Bn, 0, none⟩ = some (.string s)) :
    SeqStopsK Fence.wide n Try.prog 45 #[.pointer (some ⟨Bn, 0, none⟩)] tlvEnc (Below n₀) (fun ys => ys = items s) (fun pre => pre <+: items s) (items s).length w := fun l J Jx W hW hJ _ hY h0 =>
  tlvIter_in n hn l Bn n₀ s J Jx (fun pre W m hs => hJ pre W _ none hs (grownBy_drewN W m) (fun r e => by cases e)) hY W ((hW.cell (p := ⟨Bn, 0, none⟩) hBn).trans hc) h0
theorem tlvValues_in (n : Nat) (s : ByteArray) (w : World) :
    CallsIn Fence.wide n Try.prog 44 #[.string s] w fun e w' => e = .returned (.func (.func 45) #[] #[.pointer (some ⟨w.heap.size, 0, none⟩)]) ∧ w' = w.alloc (.cells #[.string s] 9) := by
  refine callsIn_of_wp Try.func44 rfl trivial ?_ rfl
  simp only [Try.ntmps44, List.size_toArray, List.length_cons, List.length_nil, Nat.reduceAdd, Nat.reduceSub, Array.replicate_succ, Array.replicate_zero, List.push_toArray, List.append_toArray, List.nil_append, List.cons_append]
  gi_wp2
  go_ret
  exact ⟨rfl, rfl⟩
/-- the cells of values -/
def tlvCells (l : List TItem) : List Value := l.flatMap fun x => [.int .i64 x.1, .string x.2.1]
def tlvKept (l : List TItem) : List S75 := l.map fun x => ⟨x.1, x.2.1⟩
theorem tlvCells_snoc (l : List TItem) (x : TItem) : tlvCells (l ++ [x]) = tlvCells l ++ [.int .i64 x.1, .string x.2.1] := by simp [tlvCells]
theorem tlvReps (W : World) (base : Nat) (ok : Nat → Prop) : ∀ (n : Nat) (l : List TItem), l.length = n → Reps (k75.M W base ok) 2 (tlvKept l) (tlvCells l) := by
  intro n
  induction n with
  | zero =>
    intro l hl
    obtain rfl : l = [] := List.length_eq_zero_iff.mp hl
    exact Reps.none _ _
  | succ n ih =>
    intro l hl
    have hne : l ≠ [] := fun e => by rw [e] at hl; simp at hl
    obtain ⟨m, u, rfl⟩ : ∃ m u, l = m ++ [u] := ⟨l.dropLast, l.getLast hne, (List.dropLast_concat_getLast hne).symm⟩
    rw [List.length_append, List.length_singleton] at hl
    rw [tlvCells_snoc, show tlvKept (m ++ [u]) = tlvKept m ++ [⟨u.1, u.2.1⟩] by simp [tlvKept]]
    exact (ih m (by omega)).snoc (k75_mkM W base ok (⟨u.1, u.2.1⟩ : S75)) rfl
theorem tlvRow {W : World} {n₀ : Nat} {v : Value} {l : List TItem} (h : W.ownsRow n₀ 75 2 v l.length (tlvCells l)) : Kd.R k75 75 W n₀ (fun _ => True) v (tlvKept l) :=
  ⟨fun _ _ => trivial, tlvCells l, by rw [show (tlvKept l).length = l.length by simp [tlvKept]]; exact h, tlvReps W n₀ _ _ l rfl⟩
def tlv_Parse.f (s : ByteArray) : Option ((List (S75)) × Int) := some (parseTlv s)
theorem cell_two_new (w : World) (x y : Value) (t : TypeId) : ∀ j u, [x, y][j]? = some u → (w.alloc (.cells #[x, y] t)).cell? ((⟨w.heap.size, 0, none⟩ : Addr).add j) = some u := by
  intro j u hj
  have hn := World.alloc_heap_new w (.cells #[x, y] t)
  match j, hj with
  | 0, hj =>
    obtain rfl : x = u := by simpa using hj
    show (match (w.alloc (.cells #[x, y] t)).heap[w.heap.size]? with | some (.cells c _ _) => c[0]? | _ => none) = some x
    rw [hn]
    rfl
  | 1, hj =>
    obtain rfl : y = u := by simpa using hj
    show (match (w.alloc (.cells #[x, y] t)).heap[w.heap.size]? with | some (.cells c _ _) => c[1]? | _ => none) = some y
    rw [hn]
    rfl
theorem tlvOut {s : ByteArray} {pre : List TItem} (hS : pre = items s) (hok : ∀ x ∈ pre, x.2.2 = 0) (hl : pre.length ≤ 64) : parseTlv s = (tlvKept pre, 0) := by
  unfold parseTlv
  rw [← hS]
  have := gather_ok pre [] [] hok (by simpa using hl)
  rw [List.append_nil] at this
  rw [this]
  simp [gather, tlvKept]
theorem tlvStop {s : ByteArray} {q : List TItem} {x : TItem} {e : Int} (hS : (q ++ [x]) <+: items s) (hok : ∀ y ∈ q, y.2.2 = 0) (hl : q.length ≤ 64) (he : (x.2.2 ≠ 0 ∧ e = x.2.2) ∨ (x.2.2 = 0 ∧ q.length = 64 ∧ e = 6)) : parseTlv s = ([], e) := by
  obtain ⟨rest, hr⟩ := hS
  unfold parseTlv
  rw [← hr, List.append_assoc, gather_ok q ([x] ++ rest) [] hok (by simpa using hl)]
  obtain ⟨t, v, e'⟩ := x
  simp only [List.singleton_append, gather, List.nil_append, List.length_map]
  rcases he with ⟨h1, rfl⟩ | ⟨h1, h2, rfl⟩
  · rw [if_neg h1]
  · rw [if_pos h1, if_pos h2]
attribute [local go_sem] Oper.semAt_some
set_option maxRecDepth 100000 in
set_option maxHeartbeats 4000000 in
theorem tlvParse_in (n : Nat) (hn : 3 ≤ n) (s : ByteArray) (w : World) : CallsIn Fence.wide n Try.prog 30 #[.string s] w fun e W' => ∃ v0_ : Value, e = .returned (.tuple #[v0_, .int .i64 (parseTlv s).2]) ∧ Kd.R k75 75 W' w.heap.size (fun _ => True) v0_ (parseTlv s).1 ∧ Below w.heap.size w W' := by
  have h1 : 1 ≤ n := by omega
  obtain ⟨i0, hi, hz0, hz1, hz2⟩ := info_parts info75
  refine callsIn_of_wp_marks Try.func30 rfl trivial ?_ rfl
  simp only [Try.ntmps30, List.size_toArray, List.length_cons, List.length_nil, Nat.reduceAdd, Nat.reduceSub, Array.replicate_succ, Array.replicate_zero, List.push_toArray, List.append_toArray, List.nil_append, List.cons_append]
  gi_wp2_with (refine ⟨trivial, ?_⟩; gi_at_call 44; refine (tlvValues_in (n - 1) _ _).mono ?_; rintro e w' ⟨rfl, rfl⟩)
  obtain ⟨W0, hW0⟩ : ∃ W0, ((w.alloc (.cells #[.slice none 0 0] 50)).alloc (.cells #[.int .i64 0] 25)).alloc (.cells #[.string s] 9) = W0 := ⟨_, rfl⟩
  have bO := ((Boxed.new w 50 (.slice none 0 0)).alloc (.cells #[.int .i64 0] 25)).alloc (.cells #[.string s] 9)
  have bE := (Boxed.new (w.alloc (.cells #[.slice none 0 0] 50)) 25 (.int .i64 0)).alloc (.cells #[.string s] 9)
  have bS := Boxed.new ((w.alloc (.cells #[.slice none 0 0] 50)).alloc (.cells #[.int .i64 0] 25)) 9 (.string s)
  simp only [World.size_alloc] at bE bS
  have hB0 : Below w.heap.size w (((w.alloc (.cells #[.slice none 0 0] 50)).alloc (.cells #[.int .i64 0] 25)).alloc (.cells #[.string s] 9)) := (((Below.refl _ w).alloc (Nat.le_refl _) _).alloc (by simp) _).alloc (by simp; omega) _
  have hsz : (((w.alloc (.cells #[.slice none 0 0] 50)).alloc (.cells #[.int .i64 0] 25)).alloc (.cells #[.string s] 9)).heap.size = w.heap.size + 3 := by simp
  rw [hW0] at bO bE bS hB0 hsz ⊢
  clear hW0
  refine wpIn_rangeFunc_ownH rfl h1 (gf := 45) (lb := #[.pointer (some ⟨w.heap.size + 1 + 1, 0, none⟩)]) rfl trivial (enters_of Try.func45 (by kernel_rfl) rfl)
    (tlvStops (n - 1) (by omega) (w.heap.size + 1 + 1) w.heap.size s W0 (by omega) bS.cell) belowK_t (belowK_b (by omega)) (Below.refl _ _) (fun _ => rfl)
    (fun pre W => (((∃ v, Boxed W w.heap.size 50 v ∧ W.ownsRow w.heap.size 75 2 v pre.length (tlvCells pre) ∧ True) ∧ Boxed W (w.heap.size + 1) 25 (.int .i64 0)) ∧ Below w.heap.size w W) ∧ ((∀ x ∈ pre, x.2.2 = 0) ∧ pre.length ≤ 64))
    (fun c pre W => (∃ q x e, (c = .ret ∧ pre = q ++ [x] ∧ (∀ y ∈ q, y.2.2 = 0) ∧ q.length ≤ 64 ∧ ((x.2.2 ≠ 0 ∧ e = x.2.2) ∨ (x.2.2 = 0 ∧ q.length = 64 ∧ e = 6))) ∧ Boxed W w.heap.size 50 (.slice none 0 0) ∧ Boxed W (w.heap.size + 1) 25 (.int .i64 e)) ∧ Below w.heap.size w W)
    (OwnFrom.and (OwnFrom.and (OwnFrom.and (Own.from (holdsRow_own w.heap.size w.heap.size 50 75 2 (fun pre => pre.length) tlvCells (fun _ _ => True)) _) (Own.from (boxed_own _ _ _) _)) (ownFrom_below (Nat.le_refl _) (by omega))) (ownFrom_pure _ _))
    (fun c => OwnFrom.and (fun _ X Y row hs hg hr => by
      obtain ⟨q, x, e, hp, h2, h3⟩ := hs
      exact ⟨q, x, e, hp, boxed_own w.heap.size 50 (fun (_ : Unit) => Value.slice none 0 0) () X Y row h2 hg (fun r e => (hr r e).2), boxed_own (w.heap.size + 1) 25 (fun (_ : Unit) => Value.int .i64 e) () X Y row h3 hg (fun r e => (hr r e).2)⟩) (ownFrom_below (Nat.le_refl _) (by omega)))
    ⟨⟨⟨⟨_, bO, World.ownsRow_nil _ _ _ _, trivial⟩, bE⟩, hB0⟩, by simp, by simp⟩
    (fun x a' W => ∃ Bx, w.heap.size + 1 < Bx ∧ W.heap[Bx]? = some (.cells #[.int .i64 x.1, .string x.2.1] 75 (0, 0)) ∧ a' = { tmps := #[.string s, undef, .pointer (some ⟨w.heap.size, 0, none⟩), .pointer (some ⟨w.heap.size + 1, 0, none⟩), .pointer (some ⟨Bx, 0, none⟩), .int .i64 x.2.2, .string s, .func (.func 45) #[] #[.pointer (some ⟨w.heap.size + 1 + 1, 0, none⟩)], .agg #[.int .i64 x.1, .string x.2.1], .int .i64 x.2.2, undef, undef, undef, undef, undef, undef, undef, undef, undef, undef, undef, undef, undef], defers := [] })
    (fun x a' _ X Y row hs hg hr => by
      obtain ⟨Bx, h1, h2, h3⟩ := hs
      refine ⟨Bx, h1, (hg.block Bx (Array.getElem?_eq_some_iff.1 h2).1 (fun e' => ?_)).trans h2, h3⟩
      obtain ⟨_, o, ho, hc⟩ := hr Bx e'.symm
      rw [h2] at ho
      cases ho
      cases hc)
    ?assign ?body ?done ?stop
  case assign =>
    rintro l pre x W K ⟨⟨⟨⟨v, bO1, hrow, _⟩, bE1⟩, hB1⟩, hp⟩ hK
    gi_wp2
    exact hK _ _ ((KeepsOthers.alloc _ _).from _) ((Below.refl _ W).alloc hB1.size _) ⟨⟨⟨⟨v, bO1.alloc _, hrow.alloc _, trivial⟩, bE1.alloc _⟩, hB1.alloc hB1.size _⟩, hp⟩ ⟨W.heap.size, bE1.lt, World.alloc_heap_new W _, rfl⟩
  case body =>
    rintro l pre x a' W hl ⟨r, hr⟩ ⟨⟨⟨⟨v, bO1, hrow, _⟩, bE1⟩, hB1⟩, hp1, hp2⟩ ⟨Bx, hBx, bX, rfl⟩ hlt
    obtain ⟨A, c, rfl⟩ := own_slice hrow
    have cO := bO1.cell
    have cE := bE1.cell
    have fO := bO1.frozen
    have fE := bE1.frozen
    have cX0 : W.cell? ⟨Bx, 0, none⟩ = some (.int .i64 x.1) := by simp [World.cell?, bX]
    have cX1 : W.cell? ⟨Bx, 1, none⟩ = some (.string x.2.1) := by simp [World.cell?, bX]
    have two : ∀ v u, KeepsFrom W0.heap.size W ((W.setCell ⟨w.heap.size, 0, none⟩ v).setCell ⟨w.heap.size + 1, 0, none⟩ u) ∧ Below w.heap.size W ((W.setCell ⟨w.heap.size, 0, none⟩ v).setCell ⟨w.heap.size + 1, 0, none⟩ u) := fun v u =>
      ⟨((KeepsOthers.setCell _ _ _).trans (KeepsOthers.setCell _ _ _)).from _, ((Below.refl _ W).setCell (p := ⟨w.heap.size, 0, none⟩) (by simp) _).setCell (p := ⟨w.heap.size + 1, 0, none⟩) (by simp) _⟩
    by_cases c3 : x.2.2 = 0
    · have d0 : (x.2.2 != 0) = false := bne_eq_false_iff_eq.mpr c3
      by_cases c4 : pre.length = 64
      · have d1 : ((pre.length : Int) == 64) = true := beq_iff_eq.mpr (by omega)
        gi_wp2
        exact ⟨(two _ _).1, ⟨pre, x, 6, ⟨rfl, rfl, hp1, hp2, .inr ⟨c3, c4, rfl⟩⟩, (bO1.set _).other (by omega) _, (bE1.other (by omega) _).set _⟩, hB1.trans (two _ _).2⟩
      · have d1 : ((pre.length : Int) == 64) = false := beq_eq_false_iff_ne.mpr (by omega)
        gi_wp2_with (gi_at_builtin; refine wpListIn_append_own _ rfl _ _ 50 rfl w.heap.size 75 i0 (.agg #[.int .i64 0, .string ⟨#[]⟩]) 2 24 Try.underlying50 hi hz0 hz1 hz2 rfl (by decide) _ _ _ rfl (hrow.alloc _) ⟨W.heap.size, 0, none⟩ 1 1 [.int .i64 x.1, .string x.2.1] rfl rfl (cell_two_new _ _ _ _) (by simp [Value.oneCell']) (by simp only [maxLen]; omega) (by omega) (by have := hB1.size; simp; omega) ?_; intro v' w1 hown' hgrow _; obtain ⟨g', cap', rfl⟩ := ownsRow_succ hown'; obtain ⟨hv1, hv2, hr2, hk2, hb2⟩ := bO1.appended (by decide) hrow hB1.size (Nat.le_refl _) hown' hgrow; have hc1 := hv1.cell; have hf1 := hv1.frozen)
        have bE2 := ((bE1.alloc _).kept hgrow (bE1.not_row (by decide) hrow)).other (B' := w.heap.size) (by omega) (.slice (some ⟨g', 0, none⟩) (pre.length + 1) cap')
        refine ⟨hk2.from _, hb2, ⟨⟨⟨_, hv2, ?_, trivial⟩, bE2⟩, hB1.trans hb2⟩, ?_, ?_⟩
        · rw [tlvCells_snoc, List.length_append, List.length_singleton]
          exact hr2
        · intro y hy
          rcases List.mem_append.1 hy with h | h
          · exact hp1 y h
          · rw [List.mem_singleton] at h
            rw [h]; exact c3
        · rw [List.length_append, List.length_singleton]
          omega
    · have d0 : (x.2.2 != 0) = true := bne_iff_ne.mpr c3
      gi_wp2
      exact ⟨(two _ _).1, ⟨pre, x, x.2.2, ⟨rfl, rfl, hp1, hp2, .inl ⟨c3, rfl⟩⟩, (bO1.set _).other (by omega) _, (bE1.other (by omega) _).set _⟩, hB1.trans (two _ _).2⟩
  case done =>
    rintro D xs W hD hS ⟨⟨⟨⟨v, bO1, hrow, _⟩, bE1⟩, hB1⟩, hp1, hp2⟩ hK
    obtain ⟨A, c, rfl⟩ := own_slice hrow
    have cO := bO1.cell
    have cE := bE1.cell
    have fO := bO1.frozen
    have fE := bE1.frozen
    have hP := tlvOut hS hp1 hp2
    have hPS : Aside0 (parseTlv s = (tlvKept xs, 0)) := ⟨hP⟩
    clear hP hS
    gi_wp2
    have hK' := ((KeepsOthers.setCell W ⟨w.heap.size, 0, none⟩ (.slice A xs.length c)).trans (KeepsOthers.setCell _ ⟨w.heap.size + 1, 0, none⟩ (.int .i64 0))).same D _ hK rfl
    have bO2 := (bO1.set (.slice A xs.length c)).other (B' := w.heap.size + 1) (by omega) (.int .i64 0)
    have bE2 := (bE1.other (B' := w.heap.size) (by omega) (.slice A xs.length c)).set (.int .i64 0)
    have hrow1 := hrow.kept (grownBy_setCell' W w.heap.size (.slice A xs.length c)) (.inr (bO1.not_row (by decide) hrow).symm)
    have hrow2 := hrow1.kept (grownBy_setCell' _ (w.heap.size + 1) (.int .i64 0)) (.inr ((bE1.other (B' := w.heap.size) (by omega) (.slice A xs.length c)).not_row (by decide) hrow1).symm)
    refine ⟨by simp, .inl ⟨_, _, rfl, run_takeDeferred hK', ?_⟩⟩
    have hc5 := cell_kept bO2.cell (grownBy_putObj' _ D (.deferred none)) (fun r e => by cases e; exact ⟨_, hK', rfl⟩)
    have hc6 := cell_kept bE2.cell (grownBy_putObj' _ D (.deferred none)) (fun r e => by cases e; exact ⟨_, hK', rfl⟩)
    refine ⟨.tuple #[.slice A xs.length c, .int .i64 0], ?_, .slice A xs.length c, by rw [hPS.out], ?_, ((hB1.setCell (p := ⟨w.heap.size, 0, none⟩) (by simp) _).setCell (p := ⟨w.heap.size + 1, 0, none⟩) (by simp) _).trans (belowK_b (w := w) (Nat.le_refl _) _ D _ _ (by omega) hK' rfl rfl)⟩
    · simp [results, Try.f30, go_sem, hc5, hc6]
    · rw [hPS.out]
      exact tlvRow (ownsRow_putObj hrow2 _ hK' rfl)
  case stop =>
    rintro D c pre W hD hpre ⟨⟨q, x, e, ⟨rfl, hq, hok, hle, he⟩, bO1, bE1⟩, hB1⟩ hK
    subst hq
    have hP := tlvStop hpre hok hle he
    have hPS : Aside0 (parseTlv s = ([], e)) := ⟨hP⟩
    clear hP hpre
    gi_wp2
    refine ⟨by simp, .inl ⟨_, _, rfl, run_takeDeferred hK, ?_⟩⟩
    have hc5 := cell_kept bO1.cell (grownBy_putObj' _ D (.deferred none)) (fun r e => by cases e; exact ⟨_, hK, rfl⟩)
    have hc6 := cell_kept bE1.cell (grownBy_putObj' _ D (.deferred none)) (fun r e => by cases e; exact ⟨_, hK, rfl⟩)
    refine ⟨.tuple #[.slice none 0 0, .int .i64 e], ?_, .slice none 0 0, by rw [hPS.out], ?_, hB1.trans (belowK_b (w := w) (Nat.le_refl _) W D _ _ (by omega) hK rfl rfl)⟩
    · simp [results, Try.f30, go_sem, hc5, hc6]
    · rw [hPS.out]
      exact tlvRow (l := []) (World.ownsRow_nil _ _ _ _)
theorem tlv_Parse.calls (a0 : ByteArray) (r1 : List (S75)) (r2 : Int) (w : World) (h : tlv_Parse.f a0 = some (r1, r2)) :
    Calls Try.prog 30 #[.string a0] w fun e w' => ∃ v0_ : Value, e = .returned (.tuple #[v0_, .int .i64 r2]) ∧ Kd.R k75 75 w' w.heap.size (fun _ => True) v0_ r1 ∧ Below w.heap.size w w' := by
  unfold tlv_Parse.f at h
  have h' := Option.some.inj h
  have h1 : (parseTlv a0).1 = r1 := by rw [h']
  have h2 : (parseTlv a0).2 = r2 := by rw [h']
  rw [← h1, ← h2]
  exact callsIn_wide.1 (tlvParse_in 3 (Nat.le_refl _) a0 w)
end

end Go.Proofs.Ytndcpbiofhclhaa.H
