-- written by hp.py for this claim, out of the kit's printer and texts of my own
import Derived.Test.YtlcnhmigbdaajaaHx0
import Derived.Deep.RegionLaw
import Derived.Deep.QuietTactic
import Derived.BigQuiet
import Derived.StillTailTactics
import Derived.WalkKit
namespace Go.Proofs.Ytlcnhmigbdaajaa.H
open Go.RowKit Go.Proofs.YtlcnhmigbdaajaaW.PrintWords Go.Proofs.YtlcnhmigbdaajaaW.PrintLast Go.Proofs.YtlcnhmigbdaajaaW.PrintMore
attribute [local go_sem] max2_int min2_int max_two min_two max_three min_three max_four min_four   -- for this text's walks alone
set_option linter.unusedVariables false
set_option linter.unusedSimpArgs false

theorem cmpNaN_calls (a : Int) (W : World) : Calls Try.prog 54 #[.int .i64 a] W fun e W' => e = .returned (.bool false) ∧ W = W' := by
  have d : (a != a) = false := bne_self_eq_false _
  go_enter Try.func54, Try.ntmps54
  go_wp2
  go_ret
  exact ⟨rfl, rfl⟩
def cmpInt (a b : Int) : Int := if a < b then -1 else if b < a then 1 else 0
theorem cmpCompare_calls (a b : Int) (W : World) : Calls Try.prog 53 #[.int .i64 a, .int .i64 b] W fun e W' => e = .returned (.int .i64 (cmpInt a b)) ∧ W = W' := by
  unfold cmpInt
  by_cases c1 : a < b
  · rw [if_pos c1]
    have d1 : decide (a < b) = true := decide_eq_true c1
    clear c1
    go_enter Try.func53, Try.ntmps53
    go_wp2_with (go_at_call 54; refine (cmpNaN_calls _ _).mono ?_; rintro e w' ⟨rfl, rfl⟩)
    go_ret
    exact ⟨rfl, rfl⟩
  · rw [if_neg c1]
    have d1 : decide (a < b) = false := decide_eq_false c1
    by_cases c2 : b < a
    · rw [if_pos c2]
      have d2 : decide (b < a) = true := decide_eq_true c2
      clear c1 c2
      go_enter Try.func53, Try.ntmps53
      go_wp2_with (go_at_call 54; refine (cmpNaN_calls _ _).mono ?_; rintro e w' ⟨rfl, rfl⟩)
      go_ret
      exact ⟨rfl, rfl⟩
    · rw [if_neg c2]
      have d2 : decide (b < a) = false := decide_eq_false c2
      clear c1 c2
      go_enter Try.func53, Try.ntmps53
      go_wp2_with (go_at_call 54; refine (cmpNaN_calls _ _).mono ?_; rintro e w' ⟨rfl, rfl⟩)
      go_ret
      exact ⟨rfl, rfl⟩
theorem cmpOr_calls (g c : Nat) (a b : Int) (W : World) (h0 : W.cell? ⟨g, 0, none⟩ = some (.int .i64 a)) (h1 : W.cell? ⟨g, 1, none⟩ = some (.int .i64 b)) :
    Calls Try.prog 52 #[.slice (some ⟨g, 0, none⟩) 2 c] W fun e W' => e = .returned (.int .i64 (if a = 0 then b else a)) ∧ ∃ nd, W' = W.drewN nd := by
  by_cases c1 : a = 0
  · rw [if_pos c1]
    subst c1
    have d : decide ((0 : Int) = 0) = true := rfl
    by_cases c2 : b = 0
    · subst c2
      go_enter Try.func52, Try.ntmps52
      go_wp2_with fail
      refine wp_loop_rounds 3 ?_
      rw [rounds_succ]
      go_wp2_with fail
      rw [rounds_succ]
      go_wp2_with fail
      rw [rounds_succ]
      go_wp2_with fail
      go_ret
      first | exact ⟨rfl, _, rfl⟩ | exact ⟨rfl, 0, rfl⟩ | (simp only [World.drew_drewN, World.drewN_drewN]; exact ⟨rfl, _, rfl⟩)
    · have d2 : decide (b = 0) = false := decide_eq_false c2
      go_enter Try.func52, Try.ntmps52
      go_wp2_with fail
      refine wp_loop_rounds 3 ?_
      rw [rounds_succ]
      go_wp2_with fail
      rw [rounds_succ]
      go_wp2_with fail
      go_ret
      first | exact ⟨rfl, _, rfl⟩ | exact ⟨rfl, 0, rfl⟩ | (simp only [World.drew_drewN, World.drewN_drewN]; exact ⟨rfl, _, rfl⟩)
  · rw [if_neg c1]
    have d : decide (a = 0) = false := decide_eq_false c1
    go_enter Try.func52, Try.ntmps52
    go_wp2_with fail
    refine wp_loop_rounds 3 ?_
    rw [rounds_succ]
    go_wp2_with fail
    go_ret
    first | exact ⟨rfl, _, rfl⟩ | exact ⟨rfl, 0, rfl⟩ | (simp only [World.drew_drewN, World.drewN_drewN]; exact ⟨rfl, _, rfl⟩)
/-- an alarm's cells -/
def alEnc (x : S58) : List Value := [.int .i64 x.f0, .int .i64 x.f1, .string x.f2]
def alCells (l : List S58) : List Value := l.flatMap alEnc
theorem alCells_length (l : List S58) : (alCells l).length = l.length * 3 := by
  induction l with
  | nil => rfl
  | cons a l ih => simp only [alCells, List.flatMap_cons, List.length_append, List.length_cons] at ih ⊢; rw [ih]; simp only [alEnc, List.length_cons, List.length_nil]; omega
theorem alCells_get : ∀ (l : List S58) (i : Nat) (x : S58) (j : Nat), l[i]? = some x → j < 3 → (alCells l)[i * 3 + j]? = (alEnc x)[j]?
  | [], i, x, j, h, _ => by simp at h
  | a :: l, 0, x, j, h, hj => by
    simp only [List.getElem?_cons_zero, Option.some.injEq] at h
    subst h
    have : alCells (a :: l) = alEnc a ++ alCells l := rfl
    rw [this, List.getElem?_append_left (by simp only [alEnc, List.length_cons, List.length_nil]; omega)]
    congr 1; omega
  | a :: l, i + 1, x, j, h, hj => by
    have e : alCells (a :: l) = alEnc a ++ alCells l := rfl
    rw [e, List.getElem?_append_right (by simp only [alEnc, List.length_cons, List.length_nil]; omega)]
    have := alCells_get l i x j (by simpa using h) hj
    rw [← this]
    congr 1
    simp only [alEnc, List.length_cons, List.length_nil]; omega
/-- alarms in memory, a row of one's own -/
abbrev AlRow (B : Nat) (W : World) (v : Value) (l : List S58) : Prop := W.ownsRow B 58 3 v l.length (alCells l)
theorem AlRow.at {B g c n : Nat} {W : World} {l : List S58} (h : AlRow B W (.slice (some ⟨g, 0, none⟩) n c) l) (i : Nat) (x : S58) (hi : l[i]? = some x) :
    W.cell? ⟨g, i * 3, none⟩ = some (.int .i64 x.f0) ∧ W.cell? ⟨g, i * 3 + 1, none⟩ = some (.int .i64 x.f1) ∧ W.cell? ⟨g, i * 3 + 2, none⟩ = some (.string x.f2) := by
  have hc := fun j u hu => h.cells (g := g) rfl j u hu
  simp only [add_plain] at hc
  exact ⟨hc (i * 3) _ ((alCells_get l i x 0 hi (by omega)).trans rfl), hc (i * 3 + 1) _ ((alCells_get l i x 1 hi (by omega)).trans rfl), hc (i * 3 + 2) _ ((alCells_get l i x 2 hi (by omega)).trans rfl)⟩
def alOr (x y : S58) : Int := if cmpInt x.f0 y.f0 = 0 then cmpInt x.f1 y.f1 else cmpInt x.f0 y.f0
def alLess (x y : S58) : Bool := decide (alOr x y < 0)
theorem alLess_calls (B g c n : Nat) (i j : Int) (l : List S58) (x y : S58) (W : World) (h : AlRow B W (.slice (some ⟨g, 0, none⟩) n c) l) (hn : l.length = n)
    (hi0 : 0 ≤ i) (hj0 : 0 ≤ j) (hi : l[i.toNat]? = some x) (hj : l[j.toNat]? = some y) :
    Calls Try.prog 50 #[.slice (some ⟨g, 0, none⟩) n c, .int .i64 i, .int .i64 j] W fun e W' => e = .returned (.bool (alLess x y)) ∧ Below W.heap.size W W' := by
  have hi1 : i < n := by have := (List.getElem?_eq_some_iff.mp hi).1; omega
  have hj1 : j < n := by have := (List.getElem?_eq_some_iff.mp hj).1; omega
  obtain ⟨p0, p1, p2⟩ := h.at _ _ hi
  obtain ⟨q0, q1, q2⟩ := h.at _ _ hj
  have KC := cmpCompare_calls
  clear h hn hi hj
  unfold alLess alOr
  generalize cmpInt = C at *
  have KO := cmpOr_calls W.heap.size 2 (C x.f0 y.f0) (C x.f1 y.f1) (W.alloc (Obj.cells #[Value.int IntKind.i64 (C x.f0 y.f0), Value.int IntKind.i64 (C x.f1 y.f1)] 3)).drew (blk_cell (blk_drew (heap_alloc_new W _)) 0) (blk_cell (blk_drew (heap_alloc_new W _)) 1)
  generalize (if C x.f0 y.f0 = 0 then C x.f1 y.f1 else C x.f0 y.f0) = v at *
  go_enter Try.func50, Try.ntmps50
  go_upto_region 1 with (fail)
  refine wp_region_still_tail 22 (by kernel_rfl) (by kernel_rfl) ?_
  simp only [List.take_succ_cons, List.take_zero, List.drop_succ_cons, List.drop_zero]
  repeat (first | still_step | still_call ((KC _ _ _).mono (fun _ _ h => ⟨h.1, h.2.symm⟩)))
  try refine wpStill_nil ?_
  change wpList _ _ _ _ _ W.drew
  go_wp2_with (go_at_call 52; refine KO.mono ?_; rintro e w' ⟨rfl, nd, rfl⟩)
  go_ret
  exact ⟨rfl, pw_below_drewN ((Below.refl _ _).alloc (Nat.le_refl _) _) _⟩
theorem alCells_set : ∀ (l : List S58) (i : Nat) (x : S58), i < l.length → (((alCells l).set (i * 3) (.int .i64 x.f0)).set (i * 3 + 1) (.int .i64 x.f1)).set (i * 3 + 2) (.string x.f2) = alCells (l.set i x)
  | [], i, x, h => absurd h (Nat.not_lt_zero _)
  | a :: l, 0, x, h => rfl
  | a :: l, i + 1, x, h => by
    have e : ∀ (a : S58) l, alCells (a :: l) = .int .i64 a.f0 :: .int .i64 a.f1 :: .string a.f2 :: alCells l := fun _ _ => rfl
    have h3 : (i + 1) * 3 = i * 3 + 1 + 1 + 1 := by omega
    have ih := alCells_set l i x (by simpa using h)
    rw [h3, List.set_cons_succ, e, e, ← ih]
    rfl
theorem AlRow.setOne {B g c n : Nat} {W : World} {l : List S58} (h : AlRow B W (.slice (some ⟨g, 0, none⟩) n c) l) (hn : l.length = n) (i : Nat) (x : S58) (hi : i < l.length) :
    AlRow B (((W.setCell ⟨g, i * 3, none⟩ (.int .i64 x.f0)).setCell ⟨g, i * 3 + 1, none⟩ (.int .i64 x.f1)).setCell ⟨g, i * 3 + 2, none⟩ (.string x.f2)) (.slice (some ⟨g, 0, none⟩) n c) (l.set i x) ∧
      W.grownBy (((W.setCell ⟨g, i * 3, none⟩ (.int .i64 x.f0)).setCell ⟨g, i * 3 + 1, none⟩ (.int .i64 x.f1)).setCell ⟨g, i * 3 + 2, none⟩ (.string x.f2)) (some g) := by
  subst hn
  have h1 := World.ownsRow.stored h (i * 3) (.int .i64 x.f0)
  have h2 := World.ownsRow.stored h1.1 (i * 3 + 1) (.int .i64 x.f1)
  have h3 := World.ownsRow.stored h2.1 (i * 3 + 2) (.string x.f2)
  rw [alCells_set l i x hi] at h3
  refine ⟨?_, (h1.2.trans h2.2).trans h3.2⟩
  have hl : (l.set i x).length = l.length := by simp
  show World.ownsRow _ _ _ _ _ _ _
  rw [hl]
  exact h3.1
theorem World.grownBy_drewN' (W : World) (r : Option Nat) : W.grownBy W.drew r := ⟨rfl, rfl, rfl, Nat.le_refl _, fun _ _ _ => rfl⟩
/-- two change places -/
theorem alSwap_calls (B g c n : Nat) (i j : Int) (l : List S58) (x y : S58) (W : World) (h : AlRow B W (.slice (some ⟨g, 0, none⟩) n c) l) (hn : l.length = n)
    (hi0 : 0 ≤ i) (hj0 : 0 ≤ j) (hi : l[i.toNat]? = some x) (hj : l[j.toNat]? = some y) :
    Calls Try.prog 51 #[.slice (some ⟨g, 0, none⟩) n c, .int .i64 i, .int .i64 j] W fun e W' => e = .returned (.tuple #[]) ∧ AlRow B W' (.slice (some ⟨g, 0, none⟩) n c) ((l.set i.toNat y).set j.toNat x) ∧ W.grownBy W' (some g) := by
  have hi1 : i < n := by have := (List.getElem?_eq_some_iff.mp hi).1; omega
  have hj1 : j < n := by have := (List.getElem?_eq_some_iff.mp hj).1; omega
  obtain ⟨p0, p1, p2⟩ := h.at _ _ hi
  obtain ⟨q0, q1, q2⟩ := h.at _ _ hj
  have fz : ∀ k, W.frozen? ⟨g, k, none⟩ = false := fun k => by
    rcases h.2 with ⟨h', _⟩ | ⟨g', cap', cur, h', _, hh, _⟩
    · cases h'
    · injection h' with h'
      injection h' with h'
      injection h' with h'
      subst h'
      exact blk_frozen hh k
  have H1 := h.setOne hn i.toNat y (by omega)
  have H2 := H1.1.setOne (by simpa using hn) j.toNat x (by simp; omega)
  have H := Aside0.mk (And.intro H2.1 (H1.2.trans H2.2))
  have hxy : i.toNat = j.toNat → x = y := fun e => by rw [e, hj] at hi; exact (Option.some.inj hi).symm
  clear h hn hi hj H1 H2
  by_cases e : i.toNat = j.toNat
  · have e' : i = j := by omega
    subst e'
    obtain rfl := hxy rfl
    clear e hxy
    go_enter Try.func51, Try.ntmps51
    go_region
    all_goals go_wp2
    all_goals go_end0
    all_goals exact ⟨rfl, pw_own_drewN H.out.1 1, H.out.2.trans (World.grownBy_drewN' _ _)⟩
  · clear hxy
    have e2 : ¬ (j.toNat = i.toNat) := fun h => e h.symm
    go_enter Try.func51, Try.ntmps51
    go_region
    all_goals go_wp2
    all_goals go_end0
    all_goals exact ⟨rfl, pw_own_drewN H.out.1 1, H.out.2.trans (World.grownBy_drewN' _ _)⟩
/-- what Timers hold in memory: their block, the row of their alarms -/
structure TimAt (B : Nat) (W : World) (g : Nat) (l : List S58) (last : Int) (v : Value) : Prop where
  blk : W.heap[g]? = some (.cells #[v, .int .i64 last] 54 (0, 0))
  own : AlRow B W v l
  base : B ≤ g
/-- a block that calls of Timers' may write -/
def TimSp (B : Nat) (W : World) (i : Nat) : Prop := B ≤ i ∧ ∃ cs t, W.heap[i]? = some (.cells cs t (0, 0)) ∧ (t = 54 ∨ t = 58)
structure TimK (B : Nat) (W W' : World) : Prop where
  os : W'.os = W.os
  tape : W'.tape = W.tape
  output : W'.output = W.output
  size : W.heap.size ≤ W'.heap.size
  block : ∀ i, i < W.heap.size → ¬ TimSp B W i → W'.heap[i]? = W.heap[i]?
section
variable {B g : Nat} {W W1 W2 w : World} {v : Value}
theorem TimK.refl (B : Nat) (W : World) : TimK B W W := ⟨rfl, rfl, rfl, Nat.le_refl _, fun _ _ _ => rfl⟩
theorem TimK.trans (h : TimK B W W1) (k : TimK B W1 W2) : TimK B W W2 :=
  ⟨k.os.trans h.os, k.tape.trans h.tape, k.output.trans h.output, Nat.le_trans h.size k.size, fun i hi hn => by
    have e := h.block i hi hn
    refine (k.block i (Nat.lt_of_lt_of_le hi h.size) (fun hs => hn ?_)).trans e
    obtain ⟨hb, cs, t, hc, ht⟩ := hs
    exact ⟨hb, cs, t, by rw [← e]; exact hc, ht⟩⟩
theorem TimK.of_below (h : Below W.heap.size W W1) : TimK B W W1 := ⟨h.os, h.tape, h.output, h.size, fun i hi _ => h.block i hi⟩
theorem TimK.drewN (h : TimK B W W1) (n : Nat) : TimK B W (W1.drewN n) := h.trans (TimK.of_below (pw_below_drewN (Below.refl _ _) n))
theorem TimK.drew (h : TimK B W W1) : TimK B W W1.drew := h.trans (TimK.of_below (below_drew (Below.refl _ _)))
theorem TimK.set_at {cs : Array Value} (hb : W.heap[g]? = some (.cells cs 54 (0, 0))) (hB : B ≤ g) (j : Nat) (u : Value) : TimK B W (W.setCell ⟨g, j, none⟩ u) :=
  ⟨rfl, rfl, rfl, by simp [World.setCell], fun i hi hn => Below.heap_setCell _ _ _ _ (fun e => hn (by subst e; exact ⟨hB, cs, _, hb, .inl rfl⟩))⟩
theorem TimK.set (h : TimK B W W1) {cs : Array Value} (hb : W1.heap[g]? = some (.cells cs 54 (0, 0))) (hB : B ≤ g) (j : Nat) (u : Value) : TimK B W (W1.setCell ⟨g, j, none⟩ u) := h.trans (TimK.set_at hb hB j u)
/-- the row of what is read has been written, or a new one -/
theorem TimK.grown {n : Nat} {xs : List Value} (h : TimK B W W1) (ho : W1.ownsRow B 58 3 v n xs) (hg : W1.grownBy W2 v.ownBlock) : TimK B W W2 :=
  h.trans ⟨hg.os, hg.tape, hg.output, hg.size, fun i hi hn => hg.block i hi (fun e => hn ⟨own_base ho i e.symm, by
    obtain ⟨cells, hc⟩ := own_typed ho i e.symm
    exact ⟨cells, _, hc, .inr rfl⟩⟩)⟩
/-- a row that is new since -/
theorem TimK.new (h : TimK B W W1) {row : Option Nat} (hg : W1.grownBy W2 row) (hr : ∀ k, row = some k → W.heap.size ≤ k) : TimK B W W2 :=
  ⟨hg.os.trans h.os, hg.tape.trans h.tape, hg.output.trans h.output, Nat.le_trans h.size hg.size, fun i hi hn => (hg.block i (Nat.lt_of_lt_of_le hi h.size) (fun e => by have := hr i e.symm; omega)).trans (h.block i hi hn)⟩
theorem TimK.below (k : TimK B W W1) (hb : Below B w W) (hB : B ≤ W.heap.size) : Below B w W1 :=
  hb.trans ⟨k.os, k.tape, k.output, k.size, fun i hi => k.block i (Nat.lt_of_lt_of_le hi hB) (fun hs => by have := hs.1; omega)⟩
theorem TimK.blk (k : TimK B W W1) {i : Nat} {cs : Array Value} {t : TypeId} (h : W.heap[i]? = some (.cells cs t (0, 0))) (h1 : t ≠ 54) (h2 : t ≠ 58) : W1.heap[i]? = some (.cells cs t (0, 0)) := by
  rw [k.block i (blk_lt h) ?_]
  · exact h
  · rintro ⟨_, cs', t', hc, ht⟩
    rw [h] at hc
    injection hc with hc
    injection hc with _ hc
    subst hc
    exact ht.elim h1 h2
theorem TimK.row {α : Type} {d : Kd α} {e base : Nat} {ok : Nat → Prop} {u : Value} {xs : List α} (k : TimK B W W1) (h : d.R e W base ok u xs) (ht : ∀ q, q ∈ e :: d.E → q ≠ 54 ∧ q ≠ 58) : d.R e W1 base ok u xs :=
  Kd.R_mono (Kd.R_move (Kd.R_bound h) (fun i hi => by
    obtain ⟨_, _, hlt, q, hq, cells, hc⟩ := hi
    rw [k.blk hc (ht q hq).1 (ht q hq).2, hc])) (fun _ hk => hk.1)
theorem TimAt.lt {l : List S58} {last : Int} (h : TimAt B W g l last v) : g < W.heap.size := blk_lt h.blk
theorem TimAt.below {l : List S58} {last : Int} (h : TimAt B W g l last v) (hb : Below W.heap.size W W1) : TimAt B W1 g l last v := ⟨blk_below h.blk hb, pw_own_below h.own hb, h.base⟩
theorem TimAt.drewN {l : List S58} {last : Int} (h : TimAt B W g l last v) (n : Nat) : TimAt B (W.drewN n) g l last v := ⟨blk_drewN h.blk n, pw_own_drewN h.own n, h.base⟩
theorem TimAt.cell {l : List S58} {last : Int} (h : TimAt B W g l last v) : W.cell? ⟨g, 0, none⟩ = some v := (blk_cell h.blk 0).trans rfl
theorem TimAt.cell1 {l : List S58} {last : Int} (h : TimAt B W g l last v) : W.cell? ⟨g, 1, none⟩ = some (.int .i64 last) := (blk_cell h.blk 1).trans rfl
theorem TimAt.free {l : List S58} {last : Int} (h : TimAt B W g l last v) : ∀ i, W.frozen? ⟨g, i, none⟩ = false := fun i => blk_frozen h.blk i
theorem TimAt.ne {l : List S58} {last : Int} (h : TimAt B W g l last v) : some g ≠ v.ownBlock := own_ne h.own h.blk (by decide)
/-- the row has been written, in place -/
theorem TimAt.wrote {l l' : List S58} {last : Int} {r c n : Nat} (h : TimAt B W g l last (.slice (some ⟨r, 0, none⟩) n c)) (hr : AlRow B W1 (.slice (some ⟨r, 0, none⟩) n c) l') (hg : W.grownBy W1 (some r)) :
    TimAt B W1 g l' last (.slice (some ⟨r, 0, none⟩) n c) ∧ TimK B W W1 :=
  ⟨⟨blk_grown h.blk hg h.ne, hr, h.base⟩, (TimK.refl B W).grown h.own hg⟩
end
theorem methLess (a : Addr) (v : Value) (w : World) (h : w.cell? a = some v) : (method 196 56 (.pointer (some a)) "Less").run Try.prog w = .ok (50, v) w := by
  have e : (method 196 56 (.pointer (some a)) "Less").run Try.prog w = ((loadVar 52 a) >>= fun v => (pure (50, v) : Sem (FuncId × Value))).run Try.prog w := by kernel_rfl
  rw [e]
  go_simp
theorem methSwap (a : Addr) (v : Value) (w : World) (h : w.cell? a = some v) : (method 196 56 (.pointer (some a)) "Swap").run Try.prog w = .ok (51, v) w := by
  have e : (method 196 56 (.pointer (some a)) "Swap").run Try.prog w = ((loadVar 52 a) >>= fun v => (pure (51, v) : Sem (FuncId × Value))).run Try.prog w := by kernel_rfl
  rw [e]
  go_simp
theorem methLen (a : Addr) (v : Value) (w : World) (h : w.cell? a = some v) : (method 196 56 (.pointer (some a)) "Len").run Try.prog w = .ok (49, v) w := by
  have e : (method 196 56 (.pointer (some a)) "Len").run Try.prog w = ((loadVar 52 a) >>= fun v => (pure (49, v) : Sem (FuncId × Value))).run Try.prog w := by kernel_rfl
  rw [e]
  go_simp
theorem methPush (a : Addr) (w : World) : (method 196 56 (.pointer (some a)) "Push").run Try.prog w = .ok (56, .pointer (some a)) w := by kernel_rfl
theorem methPop (a : Addr) (w : World) : (method 196 56 (.pointer (some a)) "Pop").run Try.prog w = .ok (55, .pointer (some a)) w := by kernel_rfl
/-- one goes up -/
def alUp : Nat → List S58 → Nat → List S58
  | 0, l, _ => l
  | k + 1, l, j => match l[j]?, l[(j - 1) / 2]? with
    | some x, some y => if (j - 1) / 2 = j then l else if alLess x y then alUp k ((l.set ((j - 1) / 2) x).set j y) ((j - 1) / 2) else l
    | _, _ => l
theorem alUp_fuel : ∀ (k : Nat) (l : List S58) (j : Nat), j < k → alUp k l j = alUp (j + 1) l j
  | 0, l, j, h => absurd h (Nat.not_lt_zero _)
  | k + 1, l, j, h => by
    rw [alUp, alUp]
    cases hx : l[j]? with
    | none => rfl
    | some x =>
      cases hy : l[(j - 1) / 2]? with
      | none => rfl
      | some y =>
        by_cases c1 : (j - 1) / 2 = j
        · simp only [if_pos c1]
        · simp only [if_neg c1]
          by_cases c2 : alLess x y = true
          · simp only [if_pos c2]
            rw [alUp_fuel k _ _ (by omega), alUp_fuel j _ _ (by omega)]
          · simp only [if_neg c2]
  termination_by k => k
theorem alHalf (i : Nat) (h : i < 9000000000000000000) : wrap64 ((wrap64 ((i : Int) - 1)).tdiv 2) = (((i - 1) / 2 : Nat) : Int) := by
  have e1 : wrap64 ((i : Int) - 1) = (i : Int) - 1 := by simp only [wrap64]; omega
  rw [e1]
  cases i with
  | zero => simp [wrap64]
  | succ k =>
    have e2 : ((k + 1 : Nat) : Int) - 1 = (k : Int) := by omega
    rw [e2, Int.tdiv_eq_ediv_of_nonneg (by omega)]
    simp only [wrap64, Nat.add_sub_cancel]
    omega
theorem alHalf' (i : Nat) : ((i : Int) - 1).tdiv 2 = (((i - 1) / 2 : Nat) : Int) := by
  cases i with
  | zero => rfl
  | succ k =>
    have e2 : ((k + 1 : Nat) : Int) - 1 = (k : Int) := by omega
    rw [e2, Int.tdiv_eq_ediv_of_nonneg (by omega)]
    simp only [Nat.add_sub_cancel]
    omega

end Go.Proofs.Ytlcnhmigbdaajaa.H
