-- written by hp.py for this claim, out of the kit's printer and texts of my own
import Derived.Test.YtlcnhmigbdaajaaHx0
import Derived.Test.YtlcnhmigbdaajaaHx20001
import Derived.Test.YtlcnhmigbdaajaaHx20006
import Derived.Test.YtlcnhmigbdaajaaHx20007
import Derived.Test.YtlcnhmigbdaajaaHx20009
import Derived.Test.YtlcnhmigbdaajaaHx20011
import Derived.Test.YtlcnhmigbdaajaaHx20012
import Derived.Test.YtlcnhmigbdaajaaHx20012
import Derived.Lib.Hide
import Derived.Deep.LoopGhost
import Derived.Deep.DeepCutAuto
import Derived.Deep.RegionHeld3
namespace Go.Proofs.Ytlcnhmigbdaajaa.H
open Go.RowKit Go.Proofs.YtlcnhmigbdaajaaW.PrintWords Go.Proofs.YtlcnhmigbdaajaaW.PrintLast Go.Proofs.YtlcnhmigbdaajaaW.PrintMore
attribute [local go_sem] max2_int min2_int max_two min_two max_three min_three max_four min_four   -- for this text's walks alone
set_option linter.unusedVariables false
set_option linter.unusedSimpArgs false

theorem infoOne : (Try.prog.info? 60).map (fun i => (i.zero, i.size, i.bytes)) = some (some (.agg #[.int .i64 0, .int .i64 0, .string ⟨#[]⟩]), 3, 32) := by kernel_rfl
theorem underOnes : Try.prog.underlying 28 = some (.slice 60) := by kernel_rfl
/-- the reference's rows are told by the same cells -/
abbrev RK := k58
/-- what the reference's Timers hold in memory -/
structure RefAt (B : Nat) (W : World) (g : Nat) (l : List S58) (last : Int) (v : Value) : Prop where
  blk : W.heap[g]? = some (.cells #[v, .int .i64 last] 30 (0, 0))
  own : RK.R 60 W B (fun _ => True) v l
  base : B ≤ g
def RefSp (B : Nat) (W : World) (i : Nat) : Prop := B ≤ i ∧ ∃ cs, W.heap[i]? = some (.cells cs 30 (0, 0))
/-- what the reference's calls may write: their block alone; rows are always new -/
structure RefK (B : Nat) (W W' : World) : Prop where
  os : W'.os = W.os
  tape : W'.tape = W.tape
  output : W'.output = W.output
  size : W.heap.size ≤ W'.heap.size
  block : ∀ i, i < W.heap.size → ¬ RefSp B W i → W'.heap[i]? = W.heap[i]?
section
variable {B g : Nat} {W W1 W2 w : World} {v : Value}
theorem RefK.refl (B : Nat) (W : World) : RefK B W W := ⟨rfl, rfl, rfl, Nat.le_refl _, fun _ _ _ => rfl⟩
theorem RefK.trans (h : RefK B W W1) (k : RefK B W1 W2) : RefK B W W2 :=
  ⟨k.os.trans h.os, k.tape.trans h.tape, k.output.trans h.output, Nat.le_trans h.size k.size, fun i hi hn => by
    have e := h.block i hi hn
    refine (k.block i (Nat.lt_of_lt_of_le hi h.size) (fun hs => hn ?_)).trans e
    obtain ⟨hb, cs, hc⟩ := hs
    exact ⟨hb, cs, by rw [← e]; exact hc⟩⟩
theorem RefK.of_below (h : Below W.heap.size W W1) : RefK B W W1 := ⟨h.os, h.tape, h.output, h.size, fun i hi _ => h.block i hi⟩
theorem RefK.set_at {cs : Array Value} (hb : W.heap[g]? = some (.cells cs 30 (0, 0))) (hB : B ≤ g) (j : Nat) (u : Value) : RefK B W (W.setCell ⟨g, j, none⟩ u) :=
  ⟨rfl, rfl, rfl, by simp [World.setCell], fun i hi hn => Below.heap_setCell _ _ _ _ (fun e => hn (by subst e; exact ⟨hB, cs, hb⟩))⟩
theorem RefK.below (k : RefK B W W1) (hb : Below B w W) (hB : B ≤ W.heap.size) : Below B w W1 :=
  hb.trans ⟨k.os, k.tape, k.output, k.size, fun i hi => k.block i (Nat.lt_of_lt_of_le hi hB) (fun hs => by have := hs.1; omega)⟩
theorem RefK.blk (k : RefK B W W1) {i : Nat} {cs : Array Value} {t : TypeId} (h : W.heap[i]? = some (.cells cs t (0, 0))) (h1 : t ≠ 30) : W1.heap[i]? = some (.cells cs t (0, 0)) := by
  rw [k.block i (blk_lt h) ?_]
  · exact h
  · rintro ⟨_, cs', hc⟩
    rw [h] at hc
    injection hc with hc
    injection hc with _ hc
    exact h1 hc
theorem RefK.ownRow {b n size : Nat} {e : TypeId} {u : Value} {xs : List Value} (k : RefK B W W1) (h : W.ownsRow b e size u n xs) (he : e ≠ 30) : W1.ownsRow b e size u n xs := by
  obtain ⟨h1, h2⟩ := h
  refine ⟨h1, ?_⟩
  rcases h2 with h2 | ⟨g, cap, cur, rfl, hg, hh, r⟩
  · exact .inl h2
  · exact .inr ⟨g, cap, cur, rfl, hg, k.blk hh he, r⟩
theorem RefK.new (h : RefK B W W1) {row : Option Nat} (hg : W1.grownBy W2 row) (hr : ∀ k, row = some k → W.heap.size ≤ k) : RefK B W W2 :=
  ⟨hg.os.trans h.os, hg.tape.trans h.tape, hg.output.trans h.output, Nat.le_trans h.size hg.size, fun i hi hn => (hg.block i (Nat.lt_of_lt_of_le hi h.size) (fun e => by have := hr i e.symm; omega)).trans (h.block i hi hn)⟩
theorem RefAt.below {l : List S58} {last : Int} (h : RefAt B W g l last v) (hb : Below W.heap.size W W1) : RefAt B W1 g l last v := ⟨blk_below h.blk hb, Kd.R_below h.own hb, h.base⟩
theorem RefAt.cell {l : List S58} {last : Int} (h : RefAt B W g l last v) : W.cell? ⟨g, 0, none⟩ = some v := (blk_cell h.blk 0).trans rfl
theorem RefAt.cell1 {l : List S58} {last : Int} (h : RefAt B W g l last v) : W.cell? ⟨g, 1, none⟩ = some (.int .i64 last) := (blk_cell h.blk 1).trans rfl
theorem RefAt.free {l : List S58} {last : Int} (h : RefAt B W g l last v) : ∀ i, W.frozen? ⟨g, i, none⟩ = false := fun i => blk_frozen h.blk i
/-- the timers' calls leave the reference alone, and the other way round -/
theorem RefAt.tim {l : List S58} {last : Int} (h : RefAt B W g l last v) (k : TimK B W W1) : RefAt B W1 g l last v :=
  ⟨k.blk h.blk (by decide) (by decide), k.row h.own (by decide), h.base⟩
theorem TimAt.ref {l : List S58} {last : Int} (h : TimAt B W g l last v) (k : RefK B W W1) : TimAt B W1 g l last v :=
  ⟨k.blk h.blk (by decide), k.ownRow h.own (by decide), h.base⟩
/-- the list's row, another one -/
theorem RefAt.put {l l' : List S58} {last : Int} {u : Value} (h : RefAt B W g l last v) (hu : RK.R 60 W B (fun _ => True) u l') : RefAt B (W.setCell ⟨g, 0, none⟩ u) g l' last u ∧ RefK B W (W.setCell ⟨g, 0, none⟩ u) :=
  ⟨⟨blk_set h.blk 0 _, Kd.R_set hu h.blk (by decide) _ _, h.base⟩, RefK.set_at h.blk h.base 0 _⟩
theorem RefAt.num {l : List S58} {last : Int} (h : RefAt B W g l last v) (n : Int) : RefAt B (W.setCell ⟨g, 1, none⟩ (.int .i64 n)) g l n v ∧ RefK B W (W.setCell ⟨g, 1, none⟩ (.int .i64 n)) :=
  ⟨⟨blk_set h.blk 1 _, Kd.R_set h.own h.blk (by decide) _ _, h.base⟩, RefK.set_at h.blk h.base 1 _⟩
end
def RefIs (B g : Nat) (W : World) (l : List S58) (last : Int) (W' : World) : Prop := ∃ v, RefAt B W' g l last v ∧ RefK B W W'
theorem RefAt.reads {B g : Nat} {W : World} {l : List S58} {last : Int} {v : Value} (h : RefAt B W g l last v) : ∃ A c, v = .slice A l.length c ∧ l.length ≤ c ∧ RK.C W A l.length l := by
  obtain ⟨A, c, e, hc, hC⟩ := Kd.R_reads h.own
  exact ⟨A, c, e, hc, hC⟩
/-- the k-th of a row that is read -/
theorem ones_at {w : World} {A : Option Addr} {xs : List S58} (h : RK.C w A xs.length xs) (i : Nat) (h1 : i < xs.length) : ∃ ad, A = some ad ∧ w.cell? (ad.add (i * 3)) = some (.int .i64 (alG xs i).f0) ∧ w.cell? ⟨(ad.add (i * 3)).block, (ad.add (i * 3)).off + 1, none⟩ = some (.int .i64 (alG xs i).f1) ∧ w.cell? ⟨(ad.add (i * 3)).block, (ad.add (i * 3)).off + 2, none⟩ = some (.string (alG xs i).f2) := by
  obtain ⟨ad, e, h0, h2, h3⟩ := at_T58 h (i : Int) (by omega) (by omega)
  rw [Int.toNat_natCast] at h0 h2 h3
  exact ⟨ad, e, h0, h2, h3⟩
theorem ones_own {B : Nat} {W : World} {ok : Nat → Prop} {v : Value} {l : List S58} (h : RK.R 60 W B ok v l) (hp : 0 < l.length) : ∃ r c, v = .slice (some ⟨r, 0, none⟩) l.length c ∧ l.length ≤ c ∧ ∀ i, i < l.length → W.cell? ⟨r, i * 3, none⟩ = some (.int .i64 (alG l i).f0) ∧ W.cell? ⟨r, i * 3 + 1, none⟩ = some (.int .i64 (alG l i).f1) ∧ W.cell? ⟨r, i * 3 + 2, none⟩ = some (.string (alG l i).f2) := by
  obtain ⟨r, c, e, _, _, _⟩ := Kd.R_form h hp
  obtain ⟨A, c', e', hc, hC⟩ := Kd.R_reads h
  rw [e] at e'
  injection e' with e1 e2 e3
  refine ⟨r, c, e, by omega, fun i hi => ?_⟩
  obtain ⟨ad, ea, h0, h1, h2⟩ := ones_at hC i hi
  rw [← e1] at ea
  obtain rfl := Option.some.inj ea
  rw [add_plain] at h0 h1 h2
  exact ⟨h0, h1, h2⟩
theorem refNext_calls (B g : Nat) (l : List S58) (last : Int) (v : Value) (W : World) (h : RefAt B W g l last v) :
    Calls Try.prog 19 #[.pointer (some ⟨g, 0, none⟩)] W fun e W' => e = .returned (.tuple #[.int .i64 (alNext l).1, .bool (alNext l).2]) ∧ W = W' := by
  have q0 := h.cell
  cases l with
  | nil =>
    obtain ⟨A, c, rfl, _, hC⟩ := h.reads
    clear h hC
    go_enter Try.func19, Try.ntmps19
    go_wp2
    go_ret2
    exact ⟨rfl, rfl⟩
  | cons a l =>
    obtain ⟨r, c, rfl, _, hx⟩ := ones_own h.own (by simp)
    have x0 : W.cell? ⟨r, 0, none⟩ = some (.int .i64 a.f0) := (hx 0 (by simp)).1
    rw [List.length_cons] at q0
    have d : (((l.length + 1 : Nat) : Int) == 0) = false := by simp; omega
    clear h hx
    go_enter Try.func19, Try.ntmps19
    go_wp2
    go_ret2
    exact ⟨rfl, rfl⟩
/-- has: the first of a key -/
theorem any_at {l : List S58} {key : ByteArray} {k : Nat} (hk : k < l.length) (h : ((alG l k).f2 == key) = true) : l.any (fun x => x.f2 == key) = true := by
  rw [List.any_eq_true]
  have e := alG_some hk
  exact ⟨_, List.mem_of_getElem? e, h⟩
theorem any_none {l : List S58} {key : ByteArray} (h : ∀ k, k < l.length → ((alG l k).f2 == key) = false) : l.any (fun x => x.f2 == key) = false := by
  rw [List.any_eq_false]
  intro x hx
  obtain ⟨i, hi, rfl⟩ := List.getElem_of_mem hx
  have e : alG l i = l[i] := alG_get (List.getElem?_eq_getElem hi)
  have := h i hi
  rw [e] at this
  simpa using this
set_option maxRecDepth 100000 in
set_option maxHeartbeats 1000000 in
theorem refHas_calls (B g : Nat) (l : List S58) (last : Int) (v : Value) (key : ByteArray) (W : World) (h : RefAt B W g l last v) (hl : l.length ≤ 1000000) :
    Calls Try.prog 22 #[.pointer (some ⟨g, 0, none⟩), .string key] W fun e W' => e = .returned (.bool (l.any (fun x => x.f2 == key))) ∧ Below W.heap.size W W' := by
  obtain ⟨A, c, rfl, hc, _⟩ := h.reads
  have HA := Aside0.mk h
  have q0 := h.cell
  obtain ⟨n, hn⟩ : ∃ n, l.length = n := ⟨_, rfl⟩
  have HN := Aside0.mk hn
  rw [hn] at q0 hl
  clear h hn hc
  go_enter Try.func22, Try.ntmps22
  go_wp2_with fail
  go_loopg [5] (n + 1) (fun gk q wr => ∃ k : Nat, n - k < gk ∧ k ≤ n ∧ q = .int .i64 k ∧ wr = W ∧ Aside0 (∀ j, j < k → ((alG l j).f2 == key) = false))
  case atStart => exact ⟨0, by omega, Nat.zero_le _, rfl, rfl, ⟨fun j hj => absurd hj (Nat.not_lt_zero _)⟩⟩
  case round =>
    obtain ⟨k, hgk, hk, rfl, rfl, HH⟩ := hrel
    by_cases hlt : k < n
    · obtain ⟨r, c', e, hc', hx⟩ := ones_own HA.out.own (by have := HN.out; omega)
      obtain ⟨_, _, x2⟩ := hx k (by have := HN.out; omega)
      rw [HN.out] at e
      injection e with e1 e2 e3
      subst e1 e3
      clear hx hc'
      cases hb : ((alG l k).f2 == key) with
      | true =>
        have hz := any_at (key := key) (by have := HN.out; omega : k < l.length) hb
        have HZ := Aside0.mk hz
        rw [beq_toListBytes] at hb
        clear hz
        go_wp2_with fail
        go_ret
        rw [HZ.out]
        exact ⟨rfl, Below.refl _ _⟩
      | false =>
        have HNO : Aside0 (∀ j, j < k + 1 → ((alG l j).f2 == key) = false) := ⟨fun j hj => by
          by_cases hjk : j < k
          · exact HH.out j hjk
          · obtain rfl : j = k := by omega
            exact hb⟩
        rw [beq_toListBytes] at hb
        go_wp2_with fail
        go_roundg (n - k)
        case measure => omega
        case rel => exact ⟨k + 1, by omega, by omega, rfl, rfl, HNO⟩
    · have hz := any_none (key := key) (l := l) (fun j hj => HH.out j (by have := HN.out; omega))
      have HZ := Aside0.mk hz
      have d0 : decide ((k : Int) < (n : Int)) = false := decide_eq_false (by omega)
      clear hz
      go_wp2_with fail
      go_ret
      rw [HZ.out]
      exact ⟨rfl, Below.refl _ _⟩
set_option maxRecDepth 100000 in
set_option maxHeartbeats 1000000 in
theorem refDrop_calls (B g : Nat) (l : List S58) (last : Int) (v : Value) (key : ByteArray) (W : World) (h : RefAt B W g l last v) (hl : l.length ≤ 1000000) (hB : B ≤ W.heap.size) :
    Calls Try.prog 14 #[.pointer (some ⟨g, 0, none⟩), .string key] W fun e W' => e = .returned (.int .i64 ((l.length : Int) - (alKeep key l).length)) ∧ RefIs B g W (alKeep key l) last W' := by
  obtain ⟨A, c, rfl, hc, _⟩ := h.reads
  have HA := Aside0.mk h
  obtain ⟨n, hn⟩ : ∃ n, l.length = n := ⟨_, rfl⟩
  have HN := Aside0.mk hn
  have HKL := Aside0.mk (alKeep_length key l)
  rw [hn] at hl ⊢
  clear h hn hc
  go_enter Try.func14, Try.ntmps14
  go_wp2_with fail
  go_loopg [5, 6] (n + 1) (fun gk u q wr => ∃ (k : Nat), n - k < gk ∧ k ≤ n ∧ q = .int .i64 k ∧ Aside0 (RK.R 60 wr W.heap.size (fun _ => True) u (alKeep key (l.take k)) ∧ Below W.heap.size W wr))
  case atStart => exact ⟨0, by omega, Nat.zero_le _, rfl, ⟨Kd.R_nil _ _ _ _ _, Below.refl _ _⟩⟩
  case round =>
    obtain ⟨k, hgk, hk, rfl, HH⟩ := hrel
    have q0 := (HA.out.below HH.out.2).cell
    rw [HN.out] at q0
    by_cases hlt : k < n
    · obtain ⟨r, c', e, hc', hx⟩ := ones_own (HA.out.below HH.out.2).own (by have := HN.out; omega)
      obtain ⟨x0, x1, x2⟩ := hx k (by have := HN.out; omega)
      rw [HN.out] at e hc'
      injection e with e1 e2 e3
      subst e1 e3
      have hs : l.take (k + 1) = l.take k ++ [alG l k] := by
        rw [List.take_add_one, alG_some (by have := HN.out; omega)]
        rfl
      have HS := Aside0.mk hs
      clear hx hs
      cases hb : ((alG l k).f2 == key) with
      | true =>
        have HE : Aside0 (alKeep key (l.take (k + 1)) = alKeep key (l.take k)) := ⟨by rw [HS.out]; unfold alKeep; rw [List.filter_append]; simp [hb]⟩
        rw [beq_toListBytes] at hb
        have hb2 : ((alG l k).f2.toList != key.toList) = false := by simp only [bne, hb]; rfl
        clear x0 x1
        go_wp2_with fail
        go_roundg (n - k)
        case measure => omega
        case rel => exact ⟨k + 1, by omega, by omega, rfl, ⟨by rw [HE.out]; exact HH.out.1, HH.out.2⟩⟩
      | false =>
        have HE : Aside0 (alKeep key (l.take (k + 1)) = alKeep key (l.take k) ++ [alG l k]) := ⟨by rw [HS.out]; unfold alKeep; rw [List.filter_append]; simp [hb]⟩
        have HLX : Aside0 (((alKeep key (l.take k)).length + 1) * 32 ≤ 140737488355328) := ⟨by
          have h1 := alKeep_length key (l.take k)
          rw [List.length_take] at h1
          omega⟩
        rw [beq_toListBytes] at hb
        have hb2 : ((alG l k).f2.toList != key.toList) = true := by simp only [bne, hb]; rfl
        have HS1 : Aside0 (W.heap.size ≤ wr.heap.size) := ⟨HH.out.2.size⟩
        generalize alG l k = x at *
        go_wp2_with ((with_reducible refine gate_builtin (b := .append) (xs := #[.tmp 27, .tmp 35]) rfl ?_); at_builtin; refine Kd.R_append RK (w0 := wr) W.heap.size rfl (.tmp 27) (.tmp 35) 28 60 (.agg #[.int .i64 0, .int .i64 0, .string ⟨#[]⟩]) 32 rfl underOnes infoOne rfl (by decide) (by decide) u5 (alKeep key (l.take k)) x [.int .i64 x.f0, .int .i64 x.f1, .string x.f2] (fun _ => True) (fun _ => False) rfl rfl (k58_mkM _ _ _ x) (fun _ hk => hk.elim) (fun _ _ => trivial) HH.out.1 (Below.refl _ _) HS1.out HLX.out ?_; intro u9 w2 ho hb hg hat; have HU2 := Aside0.mk ho; have HB2 := Aside0.mk hb; clear ho hb hg hat)
        go_roundg (n - k)
        case measure => omega
        case rel => exact ⟨k + 1, by omega, by omega, rfl, ⟨by rw [HE.out]; exact HU2.out, HH.out.2.trans HB2.out⟩⟩
    · have d0 : decide ((k : Int) < (n : Int)) = false := decide_eq_false (by omega)
      obtain ⟨AU, cU, rfl⟩ := Kd.R_slice HH.out.1
      have he : alKeep key (l.take k) = alKeep key l := by rw [List.take_of_length_le (by have := HN.out; omega)]
      have hU := HH.out.1
      rw [he] at hU
      have hA2 := HA.out.below HH.out.2
      have HP := Aside0.mk (hA2.put (Kd.R_lower hU hB))
      have HKB := Aside0.mk HH.out.2
      have f0 := hA2.free 0
      have HKL2 := HKL.out
      rw [HN.out] at HKL2
      rw [he]
      clear hU he hA2 HH
      generalize hm : (alKeep key l).length = m at *
      have HM := Aside0.mk hm
      clear hm
      go_wp2_with fail
      go_ret
      rw [HM.out]
      exact ⟨rfl, _, HP.out.1, (RefK.of_below HKB.out).trans HP.out.2⟩
/-- a row's front that is dropped -/
theorem onesTail {W : World} {A : Option Addr} {c : Nat} {l : List S58} (h : RK.C W A l.length l) (hc : l.length ≤ c) (k : Nat) (hk : k ≤ l.length) : ∃ A', (∀ w : World, (Instr.slice 28 (.slice A l.length c) (some (.int .i64 (k : Int))) none none).run Try.prog w = .ok (.slice A' (l.length - k) (c - k)) w) ∧ RK.C W A' (l.length - k) (l.drop k) := by
  obtain ⟨i0, hi, hz0, hz1, hz2⟩ := info_parts infoOne
  refine ⟨_, cut_from 28 60 .i64 underOnes hi 3 hz1 A l.length c (k : Int) (by omega) (by omega), ?_⟩
  have := Kd.C_drop (k := RK) (c := c) h hk hc
  rw [List.length_drop] at this
  rw [Int.toNat_natCast]
  exact this
theorem onesHead {W : World} {A : Option Addr} {c : Nat} {l : List S58} (h : RK.C W A l.length l) (hc : l.length ≤ c) (k : Nat) (hk : k ≤ l.length) : (∀ w : World, (Instr.slice 28 (.slice A l.length c) none (some (.int .i64 (k : Int))) none).run Try.prog w = .ok (.slice A k c) w) ∧ RK.C W A k (l.take k) := by
  obtain ⟨i0, hi, hz0, hz1, hz2⟩ := info_parts infoOne
  refine ⟨cut_to 28 60 .i64 underOnes hi A l.length c (k : Int) (by omega) (by omega) hc, ?_⟩
  have := Kd.C_take (k := RK) h hk
  rw [List.length_take, Nat.min_eq_left hk] at this
  exact this
theorem timKM {W : World} {base : Nat} {okp : Nat → Prop} (x : S58) (cs : List Value) (h : RK.K W x cs) : RK.M W base okp x cs := by
  rw [k58_open h]
  exact k58_mkM _ _ _ x
theorem onesEmpty (W : World) : RK.R 60 (W.alloc (.cells #[] 60)) W.heap.size (fun _ => True) (.slice (some ⟨W.heap.size, 0, none⟩) 0 0) [] :=
  ⟨fun _ _ => trivial, [], World.ownsRow_lit (base := W.heap.size) (e := 60) (size := 3) W #[] 0 (Nat.le_refl _) (Nat.zero_le _) rfl, Reps.none _ _⟩
theorem own_ne' {w : World} {base g : Nat} {n : Nat} {v : Value} {xs : List Value} {cs : Array Value} (h : w.ownsRow base 9 1 v n xs) (hg : w.heap[g]? = some (.cells cs 30 (0, 0))) : some g ≠ v.ownBlock := own_ne h hg (by decide)
/-- what the reference's Due hands back and leaves -/
def RefDue (B g : Nat) (W : World) (r : List ByteArray × List S58) (last : Int) (e : Ending) (W' : World) : Prop := ∃ u, e = .returned u ∧ StrRow W.heap.size W' u r.1 ∧ RefIs B g W r.2 last W'
set_option maxRecDepth 100000 in
set_option maxHeartbeats 1000000 in
theorem refDue_calls (B g : Nat) (l : List S58) (last : Int) (v : Value) (now : Int) (W : World) (h : RefAt B W g l last v) (hl : l.length ≤ 100000) (hB : B ≤ W.heap.size) :
    Calls Try.prog 17 #[.pointer (some ⟨g, 0, none⟩), .int .i64 now] W (RefDue B g W (refDue now l) last) := by
  obtain ⟨R, hR⟩ : ∃ R, refDue now l = R := ⟨_, rfl⟩
  rw [hR]
  have HR := Aside0.mk hR
  have HT := Aside0.mk h
  clear hR h
  go_enter Try.func17, Try.ntmps17
  go_wp2_with fail
  go_loopg [5] (l.length + 1) (fun k u wr => ∃ (l' : List S58) (v' : Value) (out : List ByteArray), l'.length < k ∧ l'.length ≤ 100000 ∧ out.length + l'.length ≤ l.length ∧ Aside0 (R = (out ++ (refDue now l').1, (refDue now l').2) ∧ StrRow W.heap.size wr u out ∧ RefAt B wr g l' last v' ∧ RefK B W wr))
  case atStart => exact ⟨l, v, [], by omega, hl, by simp, ⟨by rw [HR.out]; rfl, own_nil _ _ _ _, HT.out, RefK.refl _ _⟩⟩
  case round =>
    obtain ⟨l', v', out, hk, hl1, hl2, HH⟩ := hrel
    clear HR HT
    have q0 := HH.out.2.2.1.cell
    have f0 := HH.out.2.2.1.free 0
    cases l' with
    | nil =>
      obtain ⟨A, c, rfl, _, _⟩ := HH.out.2.2.1.reads
      go_wp2_with fail
      go_ret
      have e0 := HH.out.1
      rw [show refDue now ([] : List S58) = ([], []) from rfl, List.append_nil] at e0
      rw [e0]
      exact ⟨_, rfl, HH.out.2.1, _, HH.out.2.2⟩
    | cons a t =>
      obtain ⟨r, c, rfl, hc, hx⟩ := ones_own HH.out.2.2.1.own (by simp)
      obtain ⟨x0, _, x2⟩ := hx 0 (by simp)
      have x0' : wr.cell? ⟨r, 0, none⟩ = some (.int .i64 a.f0) := x0
      have x2' : wr.cell? ⟨r, 2, none⟩ = some (.string a.f2) := x2
      simp only [List.length_cons] at hk hl1 hl2 hc q0
      clear x0 x2 hx
      by_cases c1 : a.f0 ≤ now
      · have e0 : R = ((out ++ [a.f2]) ++ (refDue now t).1, (refDue now t).2) := by rw [HH.out.1, refDue, if_pos c1, List.append_assoc]; rfl
        have HE := Aside0.mk e0
        have d1 : decide (a.f0 ≤ now) = true := decide_eq_true c1
        clear e0 c1
        have hU3 : (wr.alloc (.cells #[.string a.f2] 9)).ownsRow W.heap.size 9 1 u5 out.length (out.map Value.string) := pw_own_below HH.out.2.1 (below_alloc (Below.refl _ _) _)
        have hnw : ∀ j u, [Value.string a.f2][j]? = some u → (wr.alloc (.cells #[.string a.f2] 9)).cell? ((⟨wr.heap.size, 0, none⟩ : Addr).add j) = some u := World.news_of_block (cs := #[Value.string a.f2]) (t := 9) (fr := (0, 0)) (heap_alloc_new wr (.cells #[.string a.f2] 9))
        have hba : W.heap.size ≤ (wr.alloc (.cells #[.string a.f2] 9)).heap.size := by have := HH.out.2.2.2.size; simp; omega
        obtain ⟨i0, hi, hz0, hz1, hz2⟩ := info_parts infoStr
        have HS := Aside0.mk (And.intro hi (And.intro hz0 (And.intro hz1 (And.intro hz2 (And.intro hU3 (And.intro hnw hba))))))
        clear hi hz0 hz1 hz2 hU3 hnw hba
        go_upto_region 4 with (at_builtin; refine wpList_append_lies _ rfl (.tmp 23) (.tmp 31) 41 rfl W.heap.size 9 i0 (.string ⟨#[]⟩) 1 16 underStrs HS.out.1 HS.out.2.1 HS.out.2.2.1 HS.out.2.2.2.1 rfl Nat.one_pos u5 out.length (out.map Value.string) rfl HS.out.2.2.2.2.1 ⟨wr.heap.size, 0, none⟩ 1 1 [.string a.f2] rfl rfl HS.out.2.2.2.2.2.1 (fun u hu => by rw [List.mem_singleton.mp hu]; rfl) Nat.one_pos ?c1 ?c2 HS.out.2.2.2.2.2.2 _ rfl ?_; (case c1 => unfold maxLen; omega); (case c2 => omega); intro g1 cap1 W1 hown hgrow hat hlt1; have HOWN := Aside0.mk hown; have HGROW := Aside0.mk hgrow; clear hown hgrow hat hlt1)
        have hu2 : Kd.string.R 9 (wr.alloc (.cells #[.string a.f2] 9)) W.heap.size (fun _ => True) u5 out := Kd.R_of_own HS.out.2.2.2.2.1 (fun _ _ => trivial)
        have hA1 := HH.out.2.2.1.below (below_alloc (Below.refl _ _) (.cells #[.string a.f2] 9))
        have hA2 : RefAt B W1 g (a :: t) last (.slice (some ⟨r, 0, none⟩) (t.length + 1) c) := ⟨blk_grown hA1.blk HGROW.out (own_ne HS.out.2.2.2.2.1 hA1.blk (by decide)), Kd.R_over hA1.own hu2 (by decide) HGROW.out, hA1.base⟩
        have hK2 : RefK B W W1 := (HH.out.2.2.2.trans (RefK.of_below (below_alloc (Below.refl _ _) (.cells #[.string a.f2] 9)))).new HGROW.out (fun k hk => own_base HS.out.2.2.2.2.1 k hk)
        obtain ⟨A', hsl, hC'⟩ := onesTail (W := W1) (A := some ⟨r, 0, none⟩) (c := c) (l := a :: t) (by obtain ⟨A0, c0, e, _, hC⟩ := hA2.reads; injection e with e1 e2 e3; rw [← e1] at hC; exact hC) (by simp only [List.length_cons]; omega) 1 (by simp)
        have hsl2 : ∀ w : World, (Instr.slice 28 (.slice (some ⟨r, 0, none⟩) (t.length + 1) c) (some (.int .i64 1)) none none).run Try.prog w = .ok (.slice A' t.length (c - 1)) w := fun w => hsl w
        have hC2 : RK.C (W1.alloc (.cells #[] 60)) A' t.length t := Kd.C_below hC' (below_alloc (Below.refl _ _) _)
        have hE : RK.R 60 (W1.alloc (.cells #[] 60)) W1.heap.size (fun _ => True) (.slice (some ⟨W1.heap.size, 0, none⟩) 0 0) [] := onesEmpty W1
        have hA3 : RefAt B (W1.alloc (.cells #[] 60)) g (a :: t) last (.slice (some ⟨r, 0, none⟩) (t.length + 1) c) := hA2.below (below_alloc (Below.refl _ _) _)
        have hK3 : RefK B W (W1.alloc (.cells #[] 60)) := hK2.trans (RefK.of_below (below_alloc (Below.refl _ _) _))
        have hU4 : StrRow W.heap.size (W1.alloc (.cells #[] 60)) (.slice (some ⟨g1, 0, none⟩) (out.length + 1) cap1) (out ++ [a.f2]) := by
          show World.ownsRow _ _ _ _ _ _ _
          rw [List.length_append, List.map_append]
          exact pw_own_below HOWN.out (below_alloc (Below.refl _ _) _)
        have q1 := hA2.cell
        have q2 := hA3.cell
        have HZ := Aside0.mk (And.intro hC2 (And.intro hE (And.intro hA3 (And.intro hK3 hU4))))
        have HW1 : Aside0 (W1.heap.size ≤ (W1.alloc (.cells #[] 60)).heap.size) := ⟨by simp⟩
        have HLX : Aside0 ((([] : List S58).length + t.length) * 32 ≤ 140737488355328) := ⟨by simp only [List.length_nil]; omega⟩
        have HWB : Aside0 (W.heap.size ≤ W1.heap.size) := ⟨hK2.size⟩
        have HBW : Aside0 (B ≤ W1.heap.size) := ⟨by have := hK2.size; omega⟩
        have HGN : Aside0 (some g ≠ (Value.slice (some ⟨W1.heap.size, 0, none⟩) 0 0).ownBlock) := ⟨fun e => by have := blk_lt hA2.blk; injection e with e; simp only at e; omega⟩
        have HLT : Aside0 (g1 < W1.heap.size) := ⟨own_lt HOWN.out g1 rfl⟩
        clear hsl hC' hC2 hE hA3 hK3 hU4 hu2 hA1 hA2 hK2 x0' x2' q0 f0
        go_wp2_with ((with_reducible refine gate_builtin (b := .append) (xs := #[.tmp 34, .tmp 39]) rfl ?_); at_builtin; refine Kd.R_append_rows RK (Rr := RK.K (W1.alloc (.cells #[] 60))) (w0 := W1.alloc (.cells #[] 60)) W1.heap.size rfl (.tmp 34) (.tmp 39) 28 60 (.agg #[.int .i64 0, .int .i64 0, .string ⟨#[]⟩]) 32 rfl underOnes infoOne rfl (by decide) (by decide) (.slice (some ⟨W1.heap.size, 0, none⟩) 0 0) [] t A' t.length (c - 1) (fun _ => True) (fun _ => False) rfl rfl HZ.out.2.1 HZ.out.1 timKM (fun _ hk => hk.elim) (fun _ _ => trivial) (Below.refl _ _) HW1.out HLX.out ?_; intro v6 w6 ho hb hg hat; obtain ⟨A6, c6, rfl⟩ := Kd.R_slice ho; have HU6 := Aside0.mk ho; have hb6 := blk_grown HZ.out.2.2.1.blk hg HGN.out; have q3 := (blk_cell hb6 0).trans rfl; have f3 := blk_frozen hb6 0; have HB6 := Aside0.mk hb6; have HG6 := Aside0.mk hg; clear ho hb hg hat hb6)
        go_roundg ((a :: t).length)
        case measure => simp only [List.length_cons]; omega
        case rel =>
          refine ⟨t, _, out ++ [a.f2], by simp, by omega, by simp; omega, ⟨HE.out, ?_, ⟨blk_set HB6.out 0 _, Kd.R_set (Kd.R_lower HU6.out HBW.out) HB6.out (by decide) _ _, HZ.out.2.2.1.base⟩, ?_⟩⟩
          · exact own_setCell (own_other HZ.out.2.2.2.2 HG6.out (.inr (fun e => by have := HLT.out; have e' : g1 = W1.heap.size := Option.some.inj e; omega))) (own_ne' HZ.out.2.2.2.2 HZ.out.2.2.1.blk) _
          · exact (HZ.out.2.2.2.1.new HG6.out (fun k hk => by have hk' : W1.heap.size = k := Option.some.inj hk; have := HWB.out; omega)).trans (RefK.set_at HB6.out HZ.out.2.2.1.base 0 _)
      · have hR : R = (out, a :: t) := by rw [HH.out.1, refDue, if_neg c1, List.append_nil]
        have HRR := Aside0.mk hR
        have d1 : decide (a.f0 ≤ now) = false := decide_eq_false c1
        clear hR c1
        go_wp2_with fail
        go_ret
        rw [HRR.out]
        exact ⟨_, rfl, HH.out.2.1, _, HH.out.2.2⟩

end Go.Proofs.Ytlcnhmigbdaajaa.H
