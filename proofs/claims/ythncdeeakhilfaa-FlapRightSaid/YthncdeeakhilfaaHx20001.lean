-- written by hp.py for this claim, out of the kit's printer and texts of my own
import Derived.Test.YthncdeeakhilfaaHx0
import Derived.Test.YthncdeeakhilfaaHx20
import Derived.Test.YthncdeeakhilfaaHx28
import Derived.Test.YthncdeeakhilfaaTlv
import Derived.Test.YthncdeeakhilfaaHx20
import Derived.Deep.RegionLaw
import Derived.Deep.QuietTactic
import Derived.BigQuiet
import Derived.WalkKit
namespace Go.Proofs.Ythncdeeakhilfaa.H
open Go.RowKit Go.Proofs.YthncdeeakhilfaaW.PrintWords Go.Proofs.YthncdeeakhilfaaW.PrintLast Go.Proofs.YthncdeeakhilfaaW.PrintMore
attribute [local go_sem] max2_int min2_int max_two min_two max_three min_three max_four min_four   -- for this text's walks alone
set_option linter.unusedVariables false
set_option linter.unusedSimpArgs false

/-- what a Reader holds -/
structure FlapSt where
  ch : Int
  seq : Int
  data : ByteArray
  rd : List Int
  size : Int
  want : Int
  err : Int
def flapCells (st : FlapSt) (v : Value) : Array Value := #[.int .i64 st.ch, .int .i64 st.seq, .string st.data, v, .int .i64 st.size, .int .i64 st.want, .int .i64 st.err]
/-- a Reader in memory: its block, the row of what it has read -/
structure FlapAt (B : Nat) (W : World) (g : Nat) (st : FlapSt) (v : Value) : Prop where
  blk : W.heap[g]? = some (.cells (flapCells st v) 50 (0, 0))
  own : W.ownsRow B 5 1 v st.rd.length (nums .u8 st.rd)
  base : B ≤ g
/-- a block that a Reader's calls may write -/
def FlapSp (B : Nat) (W : World) (i : Nat) : Prop := B ≤ i ∧ ∃ cs t, W.heap[i]? = some (.cells cs t (0, 0)) ∧ (t = 50 ∨ t = 5)
structure FlapK (B : Nat) (W W' : World) : Prop where
  os : W'.os = W.os
  tape : W'.tape = W.tape
  output : W'.output = W.output
  size : W.heap.size ≤ W'.heap.size
  block : ∀ i, i < W.heap.size → ¬ FlapSp B W i → W'.heap[i]? = W.heap[i]?
section
variable {B g : Nat} {W W1 W2 w : World} {st : FlapSt} {v : Value}
theorem FlapK.refl (B : Nat) (W : World) : FlapK B W W := ⟨rfl, rfl, rfl, Nat.le_refl _, fun _ _ _ => rfl⟩
theorem FlapK.trans (h : FlapK B W W1) (k : FlapK B W1 W2) : FlapK B W W2 :=
  ⟨k.os.trans h.os, k.tape.trans h.tape, k.output.trans h.output, Nat.le_trans h.size k.size, fun i hi hn => by
    have e := h.block i hi hn
    refine (k.block i (Nat.lt_of_lt_of_le hi h.size) (fun hs => hn ?_)).trans e
    obtain ⟨hb, cs, t, hc, ht⟩ := hs
    exact ⟨hb, cs, t, by rw [← e]; exact hc, ht⟩⟩
theorem FlapK.of_below (h : Below W.heap.size W W1) : FlapK B W W1 := ⟨h.os, h.tape, h.output, h.size, fun i hi _ => h.block i hi⟩
theorem FlapK.drewN (h : FlapK B W W1) (n : Nat) : FlapK B W (W1.drewN n) := h.trans (FlapK.of_below (pw_below_drewN (Below.refl _ _) n))
theorem FlapK.drew (h : FlapK B W W1) : FlapK B W W1.drew := h.trans (FlapK.of_below (below_drew (Below.refl _ _)))
theorem FlapK.set_at {cs : Array Value} (hb : W.heap[g]? = some (.cells cs 50 (0, 0))) (hB : B ≤ g) (j : Nat) (u : Value) : FlapK B W (W.setCell ⟨g, j, none⟩ u) :=
  ⟨rfl, rfl, rfl, by simp [World.setCell], fun i hi hn => Below.heap_setCell _ _ _ _ (fun e => hn (by subst e; exact ⟨hB, cs, _, hb, .inl rfl⟩))⟩
theorem FlapK.set (h : FlapK B W W1) {cs : Array Value} (hb : W1.heap[g]? = some (.cells cs 50 (0, 0))) (hB : B ≤ g) (j : Nat) (u : Value) : FlapK B W (W1.setCell ⟨g, j, none⟩ u) := h.trans (FlapK.set_at hb hB j u)
/-- the row of what is read has been written, or a new one -/
theorem FlapK.grown {n : Nat} {xs : List Value} (h : FlapK B W W1) (ho : W1.ownsRow B 5 1 v n xs) (hg : W1.grownBy W2 v.ownBlock) : FlapK B W W2 :=
  h.trans ⟨hg.os, hg.tape, hg.output, hg.size, fun i hi hn => hg.block i hi (fun e => hn ⟨own_base ho i e.symm, by
    obtain ⟨cells, hc⟩ := own_typed ho i e.symm
    exact ⟨cells, _, hc, .inr rfl⟩⟩)⟩
/-- a row that is new since -/
theorem FlapK.new (h : FlapK B W W1) {row : Option Nat} (hg : W1.grownBy W2 row) (hr : ∀ k, row = some k → W.heap.size ≤ k) : FlapK B W W2 :=
  ⟨hg.os.trans h.os, hg.tape.trans h.tape, hg.output.trans h.output, Nat.le_trans h.size hg.size, fun i hi hn => (hg.block i (Nat.lt_of_lt_of_le hi h.size) (fun e => by have := hr i e.symm; omega)).trans (h.block i hi hn)⟩
theorem FlapK.below (k : FlapK B W W1) (hb : Below B w W) (hB : B ≤ W.heap.size) : Below B w W1 :=
  hb.trans ⟨k.os, k.tape, k.output, k.size, fun i hi => k.block i (Nat.lt_of_lt_of_le hi hB) (fun hs => by have := hs.1; omega)⟩
theorem FlapK.blk (k : FlapK B W W1) {i : Nat} {cs : Array Value} {t : TypeId} (h : W.heap[i]? = some (.cells cs t (0, 0))) (h1 : t ≠ 50) (h2 : t ≠ 5) : W1.heap[i]? = some (.cells cs t (0, 0)) := by
  rw [k.block i (blk_lt h) ?_]
  · exact h
  · rintro ⟨_, cs', t', hc, ht⟩
    rw [h] at hc
    injection hc with hc
    injection hc with _ hc
    subst hc
    exact ht.elim h1 h2
theorem FlapK.row {α : Type} {d : Kd α} {e base : Nat} {ok : Nat → Prop} {u : Value} {xs : List α} (k : FlapK B W W1) (h : d.R e W base ok u xs) (ht : ∀ q, q ∈ e :: d.E → q ≠ 50 ∧ q ≠ 5) : d.R e W1 base ok u xs :=
  Kd.R_mono (Kd.R_move (Kd.R_bound h) (fun i hi => by
    obtain ⟨_, _, hlt, q, hq, cells, hc⟩ := hi
    rw [k.blk hc (ht q hq).1 (ht q hq).2, hc])) (fun _ hk => hk.1)
theorem FlapAt.lt (h : FlapAt B W g st v) : g < W.heap.size := blk_lt h.blk
theorem FlapAt.below (h : FlapAt B W g st v) (hb : Below W.heap.size W W1) : FlapAt B W1 g st v := ⟨blk_below h.blk hb, pw_own_below h.own hb, h.base⟩
theorem FlapAt.drewN (h : FlapAt B W g st v) (n : Nat) : FlapAt B (W.drewN n) g st v := ⟨blk_drewN h.blk n, pw_own_drewN h.own n, h.base⟩
theorem FlapAt.drew (h : FlapAt B W g st v) : FlapAt B W.drew g st v := h.drewN 1
theorem FlapAt.cells (h : FlapAt B W g st v) : W.cell? ⟨g, 0, none⟩ = some (.int .i64 st.ch) ∧ W.cell? ⟨g, 1, none⟩ = some (.int .i64 st.seq) ∧ W.cell? ⟨g, 2, none⟩ = some (.string st.data) ∧ W.cell? ⟨g, 3, none⟩ = some v ∧ W.cell? ⟨g, 4, none⟩ = some (.int .i64 st.size) ∧ W.cell? ⟨g, 5, none⟩ = some (.int .i64 st.want) ∧ W.cell? ⟨g, 6, none⟩ = some (.int .i64 st.err) :=
  ⟨(blk_cell h.blk 0).trans rfl, (blk_cell h.blk 1).trans rfl, (blk_cell h.blk 2).trans rfl, (blk_cell h.blk 3).trans rfl, (blk_cell h.blk 4).trans rfl, (blk_cell h.blk 5).trans rfl, (blk_cell h.blk 6).trans rfl⟩
theorem FlapAt.free (h : FlapAt B W g st v) : ∀ i, W.frozen? ⟨g, i, none⟩ = false := fun i => blk_frozen h.blk i
theorem FlapAt.ne (h : FlapAt B W g st v) : some g ≠ v.ownBlock := own_ne h.own h.blk (by decide)
/-- a store into one of the Reader's cells -/
theorem FlapAt.set (h : FlapAt B W g st v) (st' : FlapSt) (j : Nat) (u : Value) (hr : st'.rd = st.rd) (hc : (flapCells st v).setIfInBounds j u = flapCells st' v) : FlapAt B (W.setCell ⟨g, j, none⟩ u) g st' v :=
  ⟨by rw [← hc]; exact blk_set h.blk j u, by rw [hr]; exact own_setCell h.own h.ne u, h.base⟩
/-- another row has been written -/
theorem FlapAt.grown (h : FlapAt B W g st v) {row : Option Nat} (hg : W.grownBy W1 row) (hr : ∀ k, row = some k → ∃ cells t, W.heap[k]? = some (.cells cells t (0, 0)) ∧ t ≠ 50 ∧ t ≠ 5) : FlapAt B W1 g st v := by
  refine ⟨blk_grown h.blk hg (fun e => ?_), own_other h.own hg ?_, h.base⟩
  · obtain ⟨cells, t, hc, ht, _⟩ := hr g e.symm
    rw [h.blk] at hc
    injection hc with hc
    injection hc with _ hc
    exact ht hc.symm
  · cases hv : v.ownBlock with
    | none => exact .inl rfl
    | some k =>
      refine .inr fun e => ?_
      obtain ⟨cells, t, hc, _, ht⟩ := hr k e.symm
      obtain ⟨cells', hc'⟩ := own_typed h.own k hv
      rw [hc'] at hc
      injection hc with hc
      injection hc with _ hc
      exact ht hc.symm
end
/-- the number of two bytes -/
def flapNum (l : List Int) (i : Nat) : Int := Tlv.num (Bytes.L (strOfNums ((l.take (i + 2)).drop i))) 0
/-- a byte at a place of a frame: what is held then, and what is wrong -/
def flapStep (st : FlapSt) (c : Int) : FlapSt × Int :=
  if st.rd.length = 1 then (st, if c = 42 then 0 else 120)
  else if st.rd.length = 2 then ({ st with ch := c }, if c < 1 ∨ 5 < c then 120 else 0)
  else if st.rd.length = 4 then ({ st with seq := flapNum st.rd 2 }, if 0 ≤ st.want ∧ flapNum st.rd 2 ≠ st.want then 121 else 0)
  else if st.rd.length = 6 then ({ st with size := flapNum st.rd 4 }, if 8192 < flapNum st.rd 4 then 1 else 0)
  else (st, 0)
theorem flapNum_f (l : List Int) (i : Nat) (h : i + 2 ≤ l.length) : tlv_Num.f 100 (strOfNums ((l.take (i + 2)).drop i)) = some (flapNum l i, 0) := by
  have hz : (strOfNums ((l.take (i + 2)).drop i)).size = 2 := by
    rw [strOfNums_size, List.length_drop, List.length_take]
    omega
  rw [Tlv.Num_eq _ 100 (by omega)]
  unfold Tlv.numAns
  rw [if_pos (Or.inr (Or.inl hz))]
  rfl
set_option maxRecDepth 100000 in
set_option maxHeartbeats 4000000 in
theorem flapStep_calls (B g : Nat) (st : FlapSt) (v : Value) (c n : Int) (W : World) (h : FlapAt B W g st v) (hn : (st.rd.length : Int) = n) (hc0 : 0 ≤ c) (hc1 : c ≤ 255) :
    Calls Try.prog 22 #[.pointer (some ⟨g, 0, none⟩), .int .i64 n, .int .u8 c] W fun e W' => e = .returned (.int .i64 (flapStep st c).2) ∧ FlapAt B W' g (flapStep st c).1 v ∧ FlapK B W W' := by
  obtain ⟨q0, q1, q2, q3, q4, q5, q6⟩ := h.cells
  have fz := h.free
  have HA := Aside0.mk h
  clear h
  unfold flapStep
  by_cases h1 : st.rd.length = 1
  · rw [if_pos h1]
    obtain rfl : n = 1 := by omega
    clear hn h1
    by_cases c1 : c = 42
    · rw [if_pos c1]
      subst c1
      go_enter Try.func22, Try.ntmps22
      go_wp2
      go_ret
      exact ⟨rfl, HA.out, FlapK.refl _ _⟩
    · rw [if_neg c1]
      have d1 : (c != 42) = true := bne_iff_ne.mpr c1
      clear c1
      go_enter Try.func22, Try.ntmps22
      go_wp2
      go_ret
      exact ⟨rfl, HA.out, FlapK.refl _ _⟩
  · rw [if_neg h1]
    have b1 : (n == 1) = false := beq_eq_false_iff_ne.mpr (by omega)
    by_cases h2 : st.rd.length = 2
    · rw [if_pos h2]
      obtain rfl : n = 2 := by omega
      clear hn h1 h2
      have HS := Aside0.mk (HA.out.set { st with ch := c } 0 (.int .i64 c) rfl rfl)
      have HK := Aside0.mk (FlapK.set_at HA.out.blk HA.out.base 0 (.int .i64 c))
      by_cases c1 : c < 1
      · rw [if_pos (Or.inl c1)]
        have d1 : decide (c < 1) = true := decide_eq_true c1
        clear c1
        go_enter Try.func22, Try.ntmps22
        go_wp2
        go_ret
        exact ⟨rfl, HS.out, HK.out⟩
      · have d1 : decide (c < 1) = false := decide_eq_false c1
        by_cases c2 : 5 < c
        · rw [if_pos (Or.inr c2)]
          have d2 : decide (5 < c) = true := decide_eq_true c2
          clear c1 c2
          go_enter Try.func22, Try.ntmps22
          go_wp2
          go_ret
          exact ⟨rfl, HS.out, HK.out⟩
        · rw [if_neg (fun h => h.elim c1 c2)]
          have d2 : decide (5 < c) = false := decide_eq_false c2
          clear c1 c2
          go_enter Try.func22, Try.ntmps22
          go_wp2
          go_ret
          exact ⟨rfl, HS.out, HK.out⟩
    · rw [if_neg h2]
      have b2 : (n == 2) = false := beq_eq_false_iff_ne.mpr (by omega)
      by_cases h4 : st.rd.length = 4
      · rw [if_pos h4]
        obtain rfl : n = 4 := by omega
        have h4' : 4 ≤ st.rd.length := by omega
        clear hn h1 h2
        obtain ⟨A, cp, rfl, hle, hrd⟩ := own_reads_of_le (enc := Value.int .u8) (d := 0) HA.out.own
        obtain ⟨i0, hi, hz0, hz1, hz2⟩ := info_parts info5
        obtain ⟨A1, k1, k2, k3⟩ := print_mid_of (P := Try.prog) (Value.int .u8) 0 47 5 .i64 .i64 Try.underlying47 hi hz1 A cp st.rd 2 4 (by omega) (by omega) (by omega) hle
        have k5 := string_of_reads (P := Try.prog) (c := cp - (2 : Int).toNat) (dst := 9) Try.underlying47 Try.underlying5 Try.underlying9 (k2 W hrd)
        have kn : tlv_Num.f 100 (strOfNums ((st.rd.take (4 : Int).toNat).drop (2 : Int).toNat)) = some (flapNum st.rd 2, 0) := flapNum_f st.rd 2 (by omega)
        have HS := Aside0.mk (fun m => (HA.out.drewN m).set { st with seq := flapNum st.rd 2 } 1 (.int .i64 (flapNum st.rd 2)) rfl rfl)
        have HK := Aside0.mk (fun m => ((FlapK.refl B W).drewN m).set (HA.out.drewN m).blk HA.out.base 1 (.int .i64 (flapNum st.rd 2)))
        generalize flapNum st.rd 2 = q at *
        generalize strOfNums ((st.rd.take (4 : Int).toNat).drop (2 : Int).toNat) = sx at *
        generalize ((st.rd.take (4 : Int).toNat).drop (2 : Int).toNat).length = nx at *
        generalize cp - (2 : Int).toNat = cx at *
        have KN := fun w => tlv_Num.calls 100 _ _ _ w kn
        clear k2 k3 kn hrd hle hz0 hz1 hz2 hi h4 h4' b1 b2
        by_cases w0 : 0 ≤ st.want
        · have e0 : decide (0 ≤ st.want) = true := decide_eq_true w0
          by_cases w1 : q = st.want
          · rw [if_neg (fun h => h.2 w1)]
            have e1 : (q != st.want) = false := bne_eq_false_iff_eq.mpr w1
            clear w0 w1
            go_enter Try.func22, Try.ntmps22
            go_wp2_with (go_at_call 28; refine (KN _).mono ?_; rintro e w' ⟨rfl, ⟨nd, rfl⟩⟩)
            go_quiet (fail)
            go_wp2
            go_ret
            exact ⟨rfl, by repeat (first | exact HS.out _ | refine FlapAt.drewN ?_ _ | refine FlapAt.drew ?_), by repeat (first | exact HK.out _ | refine FlapK.drewN ?_ _ | refine FlapK.drew ?_)⟩
          · rw [if_pos ⟨w0, w1⟩]
            have e1 : (q != st.want) = true := bne_iff_ne.mpr w1
            clear w0 w1
            go_enter Try.func22, Try.ntmps22
            go_wp2_with (go_at_call 28; refine (KN _).mono ?_; rintro e w' ⟨rfl, ⟨nd, rfl⟩⟩)
            go_quiet (fail)
            go_wp2
            go_ret
            exact ⟨rfl, by repeat (first | exact HS.out _ | refine FlapAt.drewN ?_ _ | refine FlapAt.drew ?_), by repeat (first | exact HK.out _ | refine FlapK.drewN ?_ _ | refine FlapK.drew ?_)⟩
        · rw [if_neg (fun h => w0 h.1)]
          have e0 : decide (0 ≤ st.want) = false := decide_eq_false w0
          clear w0
          go_enter Try.func22, Try.ntmps22
          go_wp2_with (go_at_call 28; refine (KN _).mono ?_; rintro e w' ⟨rfl, ⟨nd, rfl⟩⟩)
          go_quiet (fail)
          go_wp2
          go_ret
          exact ⟨rfl, by repeat (first | exact HS.out _ | refine FlapAt.drewN ?_ _ | refine FlapAt.drew ?_), by repeat (first | exact HK.out _ | refine FlapK.drewN ?_ _ | refine FlapK.drew ?_)⟩
      · rw [if_neg h4]
        have b4 : (n == 4) = false := beq_eq_false_iff_ne.mpr (by omega)
        by_cases h6 : st.rd.length = 6
        · rw [if_pos h6]
          obtain rfl : n = 6 := by omega
          clear hn h1 h2 h4
          obtain ⟨A, cp, rfl, hle, hrd⟩ := own_reads_of_le (enc := Value.int .u8) (d := 0) HA.out.own
          obtain ⟨i0, hi, hz0, hz1, hz2⟩ := info_parts info5
          obtain ⟨A1, k1, k2, k3⟩ := print_mid_of (P := Try.prog) (Value.int .u8) 0 47 5 .i64 .i64 Try.underlying47 hi hz1 A cp st.rd 4 6 (by omega) (by omega) (by omega) hle
          have k5 := string_of_reads (P := Try.prog) (c := cp - (4 : Int).toNat) (dst := 9) Try.underlying47 Try.underlying5 Try.underlying9 (k2 W hrd)
          have kn : tlv_Num.f 100 (strOfNums ((st.rd.take (6 : Int).toNat).drop (4 : Int).toNat)) = some (flapNum st.rd 4, 0) := flapNum_f st.rd 4 (by omega)
          have HS := Aside0.mk (fun m => (HA.out.drewN m).set { st with size := flapNum st.rd 4 } 4 (.int .i64 (flapNum st.rd 4)) rfl rfl)
          have HK := Aside0.mk (fun m => ((FlapK.refl B W).drewN m).set (HA.out.drewN m).blk HA.out.base 4 (.int .i64 (flapNum st.rd 4)))
          generalize flapNum st.rd 4 = q at *
          generalize strOfNums ((st.rd.take (6 : Int).toNat).drop (4 : Int).toNat) = sx at *
          generalize ((st.rd.take (6 : Int).toNat).drop (4 : Int).toNat).length = nx at *
          generalize cp - (4 : Int).toNat = cx at *
          have KN := fun w => tlv_Num.calls 100 _ _ _ w kn
          clear k2 k3 kn hrd hle hz0 hz1 hz2 hi h6 b1 b2 b4
          by_cases w0 : 8192 < q
          · rw [if_pos w0]
            have e0 : decide (8192 < q) = true := decide_eq_true w0
            clear w0
            go_enter Try.func22, Try.ntmps22
            go_wp2_with (go_at_call 28; refine (KN _).mono ?_; rintro e w' ⟨rfl, ⟨nd, rfl⟩⟩)
            go_ret
            exact ⟨rfl, by repeat (first | exact HS.out _ | refine FlapAt.drewN ?_ _ | refine FlapAt.drew ?_), by repeat (first | exact HK.out _ | refine FlapK.drewN ?_ _ | refine FlapK.drew ?_)⟩
          · rw [if_neg w0]
            have e0 : decide (8192 < q) = false := decide_eq_false w0
            clear w0
            go_enter Try.func22, Try.ntmps22
            go_wp2_with (go_at_call 28; refine (KN _).mono ?_; rintro e w' ⟨rfl, ⟨nd, rfl⟩⟩)
            go_ret
            exact ⟨rfl, by repeat (first | exact HS.out _ | refine FlapAt.drewN ?_ _ | refine FlapAt.drew ?_), by repeat (first | exact HK.out _ | refine FlapK.drewN ?_ _ | refine FlapK.drew ?_)⟩
        · rw [if_neg h6]
          have b6 : (n == 6) = false := beq_eq_false_iff_ne.mpr (by omega)
          clear hn h1 h2 h4 h6
          go_enter Try.func22, Try.ntmps22
          go_wp2
          go_ret
          exact ⟨rfl, HA.out, FlapK.refl _ _⟩
def flapNext (n : Int) : Int := if n < 0 ∨ 65535 ≤ n then 0 else n + 1
theorem flapNext_f (n : Int) : flap_Next.f n = some (flapNext n) := by
  unfold flap_Next.f flapNext
  by_cases h1 : n < 0
  · rw [if_pos h1, if_pos (Or.inl h1)]
  · rw [if_neg h1]
    by_cases h2 : n ≥ 65535
    · rw [if_pos h2, if_pos (Or.inr h2)]
    · rw [if_neg h2, if_neg (fun h => h.elim h1 h2), show wrap64 (n + 1) = n + 1 by unfold wrap64; omega]
/-- one byte: what is held then, the frame that comes -/
def flapByte (st : FlapSt) (c : Int) : FlapSt × List S37 :=
  let p := flapStep { st with rd := st.rd ++ [c] } c
  if p.2 = 0 ∧ 6 ≤ p.1.rd.length ∧ (p.1.rd.length : Int) = 6 + p.1.size then
    (⟨0, 0, ⟨#[]⟩, [], 0, flapNext p.1.seq, 0⟩, [⟨p.1.ch, p.1.seq, strOfNums (p.1.rd.drop 6)⟩])
  else ({ p.1 with err := p.2 }, [])
def flapRun : List UInt8 → FlapSt → List S37 → FlapSt × List S37
  | [], st, out => (st, out)
  | c :: l, st, out => if st.err = 0 then flapRun l (flapByte st (c.toNat : Int)).1 (out ++ (flapByte st (c.toNat : Int)).2) else (st, out)
/-- what a Reader that may go on has read -/
def FlapOk (st : FlapSt) : Prop := st.rd.length ≤ 8198 ∧ (st.err = 0 → st.rd.length ≤ 5 ∨ (6 ≤ st.rd.length ∧ (st.rd.length : Int) < 6 + st.size ∧ st.size ≤ 8192))
theorem flapNum_bound (l : List Int) (i : Nat) (h : i + 2 ≤ l.length) : 0 ≤ flapNum l i ∧ flapNum l i < 65536 := by
  have hz : (strOfNums ((l.take (i + 2)).drop i)).size = 2 := by
    rw [strOfNums_size, List.length_drop, List.length_take]
    omega
  have := Tlv.num_fits (strOfNums ((l.take (i + 2)).drop i)) (Or.inr (Or.inl hz))
  rw [hz] at this
  obtain ⟨h0, h1⟩ := (Tlv.fits_iff _ _).mp this
  exact ⟨h0, by unfold flapNum; omega⟩
theorem flapStep_rd (st : FlapSt) (c : Int) : (flapStep st c).1.rd = st.rd ∧ (flapStep st c).1.want = st.want ∧ (flapStep st c).1.err = st.err := by
  unfold flapStep
  repeat' split
  all_goals exact ⟨rfl, rfl, rfl⟩
/-- what is known behind a byte that was well -/
theorem flapStep_size (st : FlapSt) (c : Int) (h : FlapOk st) (h0 : st.err = 0) (hp : (flapStep { st with rd := st.rd ++ [c] } c).2 = 0) (h6 : 6 ≤ st.rd.length + 1) :
    0 ≤ (flapStep { st with rd := st.rd ++ [c] } c).1.size ∧ (flapStep { st with rd := st.rd ++ [c] } c).1.size ≤ 8192 ∧ (st.rd.length + 1 : Int) ≤ 6 + (flapStep { st with rd := st.rd ++ [c] } c).1.size := by
  have hl : (st.rd ++ [c]).length = st.rd.length + 1 := by simp
  unfold flapStep at hp ⊢
  dsimp only at hp ⊢
  rw [hl] at hp ⊢
  rw [if_neg (by omega), if_neg (by omega), if_neg (by omega)] at hp ⊢
  by_cases h7 : st.rd.length + 1 = 6
  · rw [if_pos h7] at hp ⊢
    dsimp only at hp ⊢
    have hb := flapNum_bound (st.rd ++ [c]) 4 (by omega)
    split at hp
    · cases hp
    · omega
  · rw [if_neg h7] at hp ⊢
    dsimp only
    rcases h.2 h0 with h5 | h5
    · omega
    · omega
theorem flapByte_ok (st : FlapSt) (c : Int) (h : FlapOk st) (h0 : st.err = 0) : FlapOk (flapByte st c).1 := by
  obtain ⟨e1, e2, e3⟩ := flapStep_rd { st with rd := st.rd ++ [c] } c
  have hs := flapStep_size st c h h0
  unfold flapByte
  dsimp only
  generalize flapStep { st with rd := st.rd ++ [c] } c = p at *
  have hl : p.1.rd.length = st.rd.length + 1 := by rw [e1]; simp
  have hle : st.rd.length + 1 ≤ 8198 := by
    rcases h.2 h0 with h5 | h5 <;> omega
  split
  · exact ⟨by simp, fun _ => Or.inl (by simp)⟩
  · rename_i hn
    refine ⟨by show p.1.rd.length ≤ 8198; omega, fun hp => ?_⟩
    have hp : p.2 = 0 := hp
    show p.1.rd.length ≤ 5 ∨ (6 ≤ p.1.rd.length ∧ (p.1.rd.length : Int) < 6 + p.1.size ∧ p.1.size ≤ 8192)
    by_cases h6 : 6 ≤ st.rd.length + 1
    · have := hs hp h6
      have hne : ¬ (p.1.rd.length : Int) = 6 + p.1.size := fun e => hn ⟨hp, by omega, e⟩
      omega
    · omega

end Go.Proofs.Ythncdeeakhilfaa.H
