-- written by hp.py for this claim, out of the kit's printer and texts of my own
import Derived.Test.YtlcnhmigbdaajaaHx0
import Derived.Test.YtlcnhmigbdaajaaHx20001
import Derived.Test.YtlcnhmigbdaajaaHx20004
import Derived.Test.YtlcnhmigbdaajaaHx20005
import Derived.Lib.Hide
import Derived.Deep.LoopGhost
import Derived.Deep.DeepCutAuto
namespace Go.Proofs.Ytlcnhmigbdaajaa.H
open Go.RowKit Go.Proofs.YtlcnhmigbdaajaaW.PrintWords Go.Proofs.YtlcnhmigbdaajaaW.PrintLast Go.Proofs.YtlcnhmigbdaajaaW.PrintMore
attribute [local go_sem] max2_int min2_int max_two min_two max_three min_three max_four min_four   -- for this text's walks alone
set_option linter.unusedVariables false
set_option linter.unusedSimpArgs false

/-- the first of a key -/
def alIdx (l : List S58) (key : ByteArray) : Nat := l.findIdx (fun x => x.f2 == key)
def alIx (l : List S58) (key : ByteArray) : Int := if alIdx l key < l.length then (alIdx l key : Int) else -1
theorem alIdx_at {l : List S58} {key : ByteArray} {k : Nat} (h : ∀ j, (hj : j < k) → (hl : j < l.length) → ((l[j]).f2 == key) = false) (hk : k < l.length) (hp : ((l[k]).f2 == key) = true) : alIdx l key = k := by
  unfold alIdx
  rw [List.findIdx_eq hk]
  exact ⟨hp, fun j hj => by simpa using h j hj (by omega)⟩
theorem alIdx_none {l : List S58} {key : ByteArray} (h : ∀ j, (hl : j < l.length) → ((l[j]).f2 == key) = false) : alIdx l key = l.length := by
  unfold alIdx
  rw [List.findIdx_eq_length]
  intro x hx
  obtain ⟨j, hj, rfl⟩ := List.getElem_of_mem hx
  exact h j hj
theorem AlRow.ptr {B n c : Nat} {W : World} {A : Option Addr} {l : List S58} (h : AlRow B W (.slice A n c) l) (hl : 0 < l.length) : ∃ r, A = some ⟨r, 0, none⟩ := by
  rcases h.2 with ⟨h2, h3⟩ | ⟨g', cap, cur, he, _⟩
  · omega
  · injection he with e1 e2 e3
    exact ⟨g', e1⟩

set_option maxHeartbeats 1000000 in
theorem predDrop_calls (x : S58) (g : Nat) (key : ByteArray) (w : World) (hg : w.cell? ⟨g, 0, none⟩ = some (.string key)) :
    Calls Try.prog 25 #[.agg #[.int .i64 x.f0, .int .i64 x.f1, .string x.f2], .pointer (some ⟨g, 0, none⟩)] w fun e w' => e = .returned (.bool (x.f2 == key)) ∧ Below w.heap.size w w' := by
  have hlt : g < w.heap.size := World.block_lt_of_cell? w _ hg
  have hg' : ∀ o, (w.alloc o).cell? ⟨g, 0, none⟩ = some (.string key) := fun o => (World.cell?_alloc_past o g 0 hlt).trans hg
  clear hg
  go_enter Try.func25, Try.ntmps25
  go_wp2
  go_ret
  rw [beq_toListBytes]
  exact ⟨rfl, (Below.refl _ _).alloc (Nat.le_refl _) _⟩
set_option maxRecDepth 100000 in
set_option maxHeartbeats 1000000 in
theorem findDrop_calls (B g : Nat) (key : ByteArray) (A : Option Addr) (c : Nat) (l : List S58) (w : World) (hr : AlRow B w (.slice A l.length c) l) (hl : l.length ≤ 1000000) (hg : w.cell? ⟨g, 0, none⟩ = some (.string key)) :
    Calls Try.prog 31 #[.slice A l.length c, .func (.func 25) #[] #[.pointer (some ⟨g, 0, none⟩)]] w fun e w' => e = .returned (.int .i64 (alIx l key)) ∧ Below w.heap.size w w' := by
  have HG := Aside0.mk hg
  have HR := Aside0.mk hr
  obtain ⟨n, hn⟩ : ∃ n, l.length = n := ⟨_, rfl⟩
  have HN := Aside0.mk hn
  rw [hn] at hl ⊢
  clear hg hr hn
  go_enter Try.func31, Try.ntmps31
  go_wp2
  go_loopg [8] (n + 1) (fun gk i wr => ∃ k : Nat, n - k < gk ∧ k ≤ n ∧ i = .int .i64 k ∧ Aside0 ((∀ j, (hj : j < k) → (hl : j < l.length) → ((l[j]).f2 == key) = false) ∧ Below w.heap.size w wr))
  case atStart => exact ⟨0, by omega, Nat.zero_le _, rfl, ⟨fun j hj => absurd hj (Nat.not_lt_zero j), Below.refl _ _⟩⟩
  case round =>
    obtain ⟨k, hgk, hk, rfl, HH⟩ := hrel
    by_cases hlt : k < n
    · have hkl : k < l.length := by rw [HN.out]; exact hlt
      obtain ⟨r, rfl⟩ := HR.out.ptr (by omega)
      have hRow : AlRow B wr (.slice (some ⟨r, 0, none⟩) l.length c) l := pw_own_below HR.out HH.out.2
      obtain ⟨X, hX⟩ : ∃ X, l[k]? = some X := ⟨_, List.getElem?_eq_getElem hkl⟩
      obtain ⟨x0, x1, x2⟩ := hRow.at k X hX
      have hgw : wr.cell? ⟨g, 0, none⟩ = some (.string key) := (HH.out.2.cell (p := ⟨g, 0, none⟩) (World.block_lt_of_cell? w _ HG.out)).trans HG.out
      have hP := predDrop_calls X g key wr hgw
      have hXe : l[k] = X := by have := List.getElem?_eq_getElem hkl; rw [this] at hX; exact Option.some.inj hX
      have HX := Aside0.mk hXe
      clear hX hXe hRow hgw
      cases hb : (X.f2 == key) with
      | true =>
        rw [hb] at hP
        have hz : alIx l key = k := by unfold alIx; rw [alIdx_at HH.out.1 hkl (by rw [HX.out]; exact hb), if_pos hkl]
        have HZ := Aside0.mk hz
        clear hz hb
        go_wp2_with (go_at_call 25; refine hP.mono ?_; rintro e w1 ⟨rfl, hb1⟩)
        go_ret
        rw [HZ.out]
        exact ⟨rfl, below_step HH.out.2 hb1⟩
      | false =>
        rw [hb] at hP
        have hno : ∀ j, (hj : j < k + 1) → (hl : j < l.length) → ((l[j]).f2 == key) = false := by
          intro j hj hl
          by_cases hjk : j < k
          · exact HH.out.1 j hjk hl
          · obtain rfl : j = k := by omega
            rw [HX.out]; exact hb
        have HNO := Aside0.mk hno
        clear hb hno
        go_wp2_with (go_at_call 25; refine hP.mono ?_; rintro e w1 ⟨rfl, hb1⟩)
        go_roundg (n - k)
        case measure => omega
        case rel => exact ⟨k + 1, by omega, by omega, rfl, ⟨HNO.out, below_step HH.out.2 hb1⟩⟩
    · have hz : alIx l key = -1 := by
        unfold alIx
        rw [alIdx_none (l := l) (key := key) (fun j hl => HH.out.1 j (by have := HN.out; omega) hl), if_neg (by omega)]
      have HZ := Aside0.mk hz
      clear hz
      go_wp2
      go_ret
      rw [HZ.out]
      exact ⟨rfl, HH.out.2⟩

set_option maxHeartbeats 1000000 in
theorem predHas_calls (x : S58) (g : Nat) (key : ByteArray) (w : World) (hg : w.cell? ⟨g, 0, none⟩ = some (.string key)) :
    Calls Try.prog 29 #[.agg #[.int .i64 x.f0, .int .i64 x.f1, .string x.f2], .pointer (some ⟨g, 0, none⟩)] w fun e w' => e = .returned (.bool (x.f2 == key)) ∧ Below w.heap.size w w' := by
  have hlt : g < w.heap.size := World.block_lt_of_cell? w _ hg
  have hg' : ∀ o, (w.alloc o).cell? ⟨g, 0, none⟩ = some (.string key) := fun o => (World.cell?_alloc_past o g 0 hlt).trans hg
  clear hg
  go_enter Try.func29, Try.ntmps29
  go_wp2
  go_ret
  rw [beq_toListBytes]
  exact ⟨rfl, (Below.refl _ _).alloc (Nat.le_refl _) _⟩
set_option maxRecDepth 100000 in
set_option maxHeartbeats 1000000 in
theorem findHas_calls (B g : Nat) (key : ByteArray) (A : Option Addr) (c : Nat) (l : List S58) (w : World) (hr : AlRow B w (.slice A l.length c) l) (hl : l.length ≤ 1000000) (hg : w.cell? ⟨g, 0, none⟩ = some (.string key)) :
    Calls Try.prog 31 #[.slice A l.length c, .func (.func 29) #[] #[.pointer (some ⟨g, 0, none⟩)]] w fun e w' => e = .returned (.int .i64 (alIx l key)) ∧ Below w.heap.size w w' := by
  have HG := Aside0.mk hg
  have HR := Aside0.mk hr
  obtain ⟨n, hn⟩ : ∃ n, l.length = n := ⟨_, rfl⟩
  have HN := Aside0.mk hn
  rw [hn] at hl ⊢
  clear hg hr hn
  go_enter Try.func31, Try.ntmps31
  go_wp2
  go_loopg [8] (n + 1) (fun gk i wr => ∃ k : Nat, n - k < gk ∧ k ≤ n ∧ i = .int .i64 k ∧ Aside0 ((∀ j, (hj : j < k) → (hl : j < l.length) → ((l[j]).f2 == key) = false) ∧ Below w.heap.size w wr))
  case atStart => exact ⟨0, by omega, Nat.zero_le _, rfl, ⟨fun j hj => absurd hj (Nat.not_lt_zero j), Below.refl _ _⟩⟩
  case round =>
    obtain ⟨k, hgk, hk, rfl, HH⟩ := hrel
    by_cases hlt : k < n
    · have hkl : k < l.length := by rw [HN.out]; exact hlt
      obtain ⟨r, rfl⟩ := HR.out.ptr (by omega)
      have hRow : AlRow B wr (.slice (some ⟨r, 0, none⟩) l.length c) l := pw_own_below HR.out HH.out.2
      obtain ⟨X, hX⟩ : ∃ X, l[k]? = some X := ⟨_, List.getElem?_eq_getElem hkl⟩
      obtain ⟨x0, x1, x2⟩ := hRow.at k X hX
      have hgw : wr.cell? ⟨g, 0, none⟩ = some (.string key) := (HH.out.2.cell (p := ⟨g, 0, none⟩) (World.block_lt_of_cell? w _ HG.out)).trans HG.out
      have hP := predHas_calls X g key wr hgw
      have hXe : l[k] = X := by have := List.getElem?_eq_getElem hkl; rw [this] at hX; exact Option.some.inj hX
      have HX := Aside0.mk hXe
      clear hX hXe hRow hgw
      cases hb : (X.f2 == key) with
      | true =>
        rw [hb] at hP
        have hz : alIx l key = k := by unfold alIx; rw [alIdx_at HH.out.1 hkl (by rw [HX.out]; exact hb), if_pos hkl]
        have HZ := Aside0.mk hz
        clear hz hb
        go_wp2_with (go_at_call 29; refine hP.mono ?_; rintro e w1 ⟨rfl, hb1⟩)
        go_ret
        rw [HZ.out]
        exact ⟨rfl, below_step HH.out.2 hb1⟩
      | false =>
        rw [hb] at hP
        have hno : ∀ j, (hj : j < k + 1) → (hl : j < l.length) → ((l[j]).f2 == key) = false := by
          intro j hj hl
          by_cases hjk : j < k
          · exact HH.out.1 j hjk hl
          · obtain rfl : j = k := by omega
            rw [HX.out]; exact hb
        have HNO := Aside0.mk hno
        clear hb hno
        go_wp2_with (go_at_call 29; refine hP.mono ?_; rintro e w1 ⟨rfl, hb1⟩)
        go_roundg (n - k)
        case measure => omega
        case rel => exact ⟨k + 1, by omega, by omega, rfl, ⟨HNO.out, below_step HH.out.2 hb1⟩⟩
    · have hz : alIx l key = -1 := by
        unfold alIx
        rw [alIdx_none (l := l) (key := key) (fun j hl => HH.out.1 j (by have := HN.out; omega) hl), if_neg (by omega)]
      have HZ := Aside0.mk hz
      clear hz
      go_wp2
      go_ret
      rw [HZ.out]
      exact ⟨rfl, HH.out.2⟩

theorem alIx_has (l : List S58) (key : ByteArray) : decide (0 ≤ alIx l key) = l.any (fun x => x.f2 == key) := by
  unfold alIx alIdx
  by_cases h : l.any (fun x => x.f2 == key) = true
  · have : l.findIdx (fun x => x.f2 == key) < l.length := by
      rw [List.findIdx_lt_length]
      simpa using h
    rw [if_pos this, h]
    simp
  · have h2 : ¬ l.findIdx (fun x => x.f2 == key) < l.length := by
      rw [List.findIdx_lt_length]
      simpa using h
    rw [if_neg h2]
    simp at h ⊢
    exact h
set_option maxHeartbeats 1000000 in
theorem contains_calls (B g : Nat) (key : ByteArray) (A : Option Addr) (c : Nat) (l : List S58) (w : World) (hr : AlRow B w (.slice A l.length c) l) (hl : l.length ≤ 1000000) (hg : w.cell? ⟨g, 0, none⟩ = some (.string key)) :
    Calls Try.prog 28 #[.slice A l.length c, .func (.func 29) #[] #[.pointer (some ⟨g, 0, none⟩)]] w fun e w' => e = .returned (.bool (l.any (fun x => x.f2 == key))) ∧ Below w.heap.size w w' := by
  have kF := findHas_calls B g key A c l w hr hl hg
  rw [← alIx_has]
  clear hr hl hg
  go_enter Try.func28, Try.ntmps28
  go_wp2_with (go_at_call 31; refine kF.mono ?_; rintro e w1 ⟨rfl, hb1⟩)
  go_ret
  exact ⟨rfl, hb1⟩

theorem AlRow.free {B r n c : Nat} {W : World} {l : List S58} (h : AlRow B W (.slice (some ⟨r, 0, none⟩) n c) l) (k : Nat) : W.frozen? ⟨r, k, none⟩ = false := by
  rcases h.2 with ⟨h', _⟩ | ⟨g', cap', cur, h', _, hh, _⟩
  · cases h'
  · injection h' with h'
    injection h' with h'
    injection h' with h'
    subst h'
    exact blk_frozen hh k
/-- those of another key -/
def alKeep (key : ByteArray) (l : List S58) : List S58 := l.filter (fun x => !(x.f2 == key))
/-- what the row holds while it is gone through: the first i are those of the first j that stay -/
def AlMid (key : ByteArray) (l d : List S58) (i j : Nat) : Prop := d.length = l.length ∧ i < j ∧ j ≤ l.length ∧ d.take i = alKeep key (l.take j) ∧ d.drop j = l.drop j
theorem AlMid.start {key : ByteArray} {l : List S58} {i : Nat} (h : alIx l key = (i : Int)) : AlMid key l l i (i + 1) := by
  unfold alIx at h
  split at h
  · rename_i hlt
    have hi : alIdx l key = i := by omega
    unfold alIdx at hi hlt
    rw [hi] at hlt
    have h1 := (List.findIdx_eq hlt).mp hi
    refine ⟨rfl, by omega, by omega, ?_, rfl⟩
    unfold alKeep
    rw [List.take_succ_eq_append_getElem hlt, List.filter_append]
    have e1 : [l[i]].filter (fun x => !(x.f2 == key)) = [] := by simp [h1.1]
    rw [e1, List.append_nil]
    refine (List.filter_eq_self.mpr ?_).symm
    intro a ha
    obtain ⟨j, hj, rfl⟩ := List.getElem_of_mem ha
    have hji : j < i := by simp at hj; omega
    have := h1.2 j hji
    show (!((l.take i)[j].f2 == key)) = true
    rw [List.getElem_take]
    simpa using this
  · omega
theorem AlMid.at {key : ByteArray} {l d : List S58} {i j : Nat} (h : AlMid key l d i j) (hj : j < l.length) : d[j]? = l[j]? := by
  have := congrArg (fun x : List S58 => x[0]?) h.2.2.2.2
  simpa using this
theorem AlMid.drop1 {key : ByteArray} {l d : List S58} {i j : Nat} {x : S58} (h : AlMid key l d i j) (hx : l[j]? = some x) (hk : (x.f2 == key) = true) : AlMid key l d i (j + 1) := by
  obtain ⟨h1, h2, h3, h4, h5⟩ := h
  have hj := (List.getElem?_eq_some_iff.mp hx).1
  refine ⟨h1, by omega, by omega, ?_, ?_⟩
  · rw [h4]
    unfold alKeep
    rw [List.take_add_one, hx, List.filter_append]
    simp [hk]
  · rw [← List.drop_drop, ← List.drop_drop, h5]
theorem AlMid.keep1 {key : ByteArray} {l d : List S58} {i j : Nat} {x : S58} (h : AlMid key l d i j) (hx : l[j]? = some x) (hk : (x.f2 == key) = false) : AlMid key l (d.set i x) (i + 1) (j + 1) := by
  obtain ⟨h1, h2, h3, h4, h5⟩ := h
  have hj := (List.getElem?_eq_some_iff.mp hx).1
  refine ⟨by simpa using h1, by omega, by omega, ?_, ?_⟩
  · have hi : i < d.length := by omega
    rw [List.take_add_one, List.getElem?_set_self hi, List.take_set_of_le (Nat.le_refl _), h4]
    unfold alKeep
    rw [List.take_add_one, hx, List.filter_append]
    simp [hk]
  · rw [List.drop_set_of_lt (by omega), ← List.drop_drop, ← List.drop_drop, h5]
theorem AlMid.done {key : ByteArray} {l d : List S58} {i : Nat} (h : AlMid key l d i l.length) : d.take i = alKeep key l := by
  have := h.2.2.2.1
  rwa [List.take_of_length_le (Nat.le_refl _)] at this
/-- the row's front, and what is behind it is wiped out -/
theorem AlRow.wiped {B r n c : Nat} {W : World} {d : List S58} (h : AlRow B W (.slice (some ⟨r, 0, none⟩) n c) d) (hn : d.length = n) (i : Nat) (hi : i < n) (hc : n ≤ 1000000) :
    ∃ W', (∀ ty, (Builtin.clear_ #[52] ty #[.slice (some ⟨r, i * 3, none⟩) (n - i) (c - i)]).run Try.prog W = .ok (.tuple #[]) W') ∧ AlRow B W' (.slice (some ⟨r, 0, none⟩) i c) (d.take i) ∧ W.grownBy W' (some r) := by
  subst hn
  obtain ⟨h1, h2⟩ := h
  rcases h2 with ⟨h2, _⟩ | ⟨g, cap, cur, he, hb, hh, hn, hcm, hs, ht⟩
  · cases h2
  · injection he with e1 e2 e3
    injection e1 with e1
    injection e1 with e1
    subst e1 e3
    obtain ⟨zs, hzs⟩ : ∃ zs : List Value, (Builtin.zeroCells (Value.agg #[.int .i64 0, .int .i64 0, .string ⟨#[]⟩]).cells (d.length - i)).toList = zs := ⟨_, rfl⟩
    have hzl : zs.length = (d.length - i) * 3 := by
      rw [← hzs]
      simp [Builtin.zeroCells, Value.cells]
    have hz1 : ∀ v ∈ zs, v.oneCell' = true := by
      rw [← hzs]
      intro v hv
      obtain ⟨k, hk, rfl⟩ := List.getElem_of_mem hv
      simp only [Builtin.zeroCells, Value.cells]
      simp only [Array.getElem_toList, Array.getElem_map, Array.getElem_range]
      show (#[Value.int IntKind.i64 0, Value.int IntKind.i64 0, Value.string ⟨#[]⟩][k % 3]!).oneCell' = true
      have h3 : k % 3 = 0 ∨ k % 3 = 1 ∨ k % 3 = 2 := by omega
      rcases h3 with h | h | h <;> rw [h] <;> rfl
    have hst := run_storeCells_at (P := Try.prog) r (i * 3) 58 zs 0 cur W hh (by rw [hzl]; omega) hz1
    have hzv : ∀ w, (zeroValue 58).run Try.prog w = .ok (.agg #[.int .i64 0, .int .i64 0, .string ⟨#[]⟩]) w := fun w => by kernel_rfl
    refine ⟨W.setRow r (cur.toList.take (i * 3 + 0) ++ zs ++ cur.toList.drop (i * 3 + 0 + zs.length)).toArray, fun ty => ?_, ?_, ?_⟩
    · obtain ⟨m, hm⟩ : ∃ m, d.length - i = m + 1 := ⟨d.length - i - 1, by omega⟩
      rw [hm] at hzs
      rw [hm]
      simp [Builtin.clear_, run_underlying underAlarms, hzv, hzs, hst]
    · have hsz : (cur.toList.take (i * 3 + 0) ++ zs ++ cur.toList.drop (i * 3 + 0 + zs.length)).toArray.size = cur.size := by simp [hzl]; omega
      have hti : (d.take i).length = i := by simp; omega
      show World.ownsRow _ _ _ _ _ _ _
      rw [hti]
      refine ⟨by rw [alCells_length, hti], .inr ⟨r, c, _, rfl, hb, setRow_heap W r cur _ _ _ hh, by omega, hcm, by rw [hsz]; exact hs, ?_⟩⟩
      simp only [Nat.add_zero]
      rw [List.append_assoc, List.take_append_of_le_length (by simp; omega), List.take_take, Nat.min_self]
      have e4 : alCells d = alCells (d.take i) ++ alCells (d.drop i) := by
        rw [show alCells (d.take i) ++ alCells (d.drop i) = alCells (d.take i ++ d.drop i) from by simp only [alCells, List.flatMap_append], List.take_append_drop]
      have e5 := congrArg (List.take (i * 3)) ht
      rw [List.take_take, Nat.min_eq_left (by omega)] at e5
      have e6 : (alCells d).take (i * 3) = alCells (d.take i) := by rw [e4, List.take_append_of_le_length (by rw [alCells_length, hti]; omega), List.take_of_length_le (by rw [alCells_length, hti]; omega)]
      exact e5.trans e6
    · refine ⟨rfl, rfl, rfl, by simp [World.setRow], fun k hk hne => ?_⟩
      have : k ≠ r := fun e => hne (by rw [e])
      simp [World.setRow, Array.getElem?_modify, Ne.symm this]

set_option maxRecDepth 100000 in
set_option maxHeartbeats 1000000 in
theorem deleteFunc_calls (B g : Nat) (key : ByteArray) (A : Option Addr) (c : Nat) (l : List S58) (w : World) (hr : AlRow B w (.slice A l.length c) l) (hl : l.length ≤ 1000000) (hg : w.cell? ⟨g, 0, none⟩ = some (.string key)) (hne : ∀ a, A = some a → a.block ≠ g) :
    Calls Try.prog 24 #[.slice A l.length c, .func (.func 25) #[] #[.pointer (some ⟨g, 0, none⟩)]] w fun e w' => e = .returned (.slice A (alKeep key l).length c) ∧ AlRow B w' (.slice A (alKeep key l).length c) (alKeep key l) ∧ w.grownBy w' (Value.slice A l.length c).ownBlock := by
  have kF := findDrop_calls B g key A c l w hr hl hg
  have HG := Aside0.mk hg
  have HR := Aside0.mk hr
  have HNE := Aside0.mk hne
  by_cases h0 : alIx l key = -1
  · rw [h0] at kF
    have hk : alKeep key l = l := by
      unfold alIx at h0
      split at h0
      · omega
      · rename_i h1
        unfold alIdx at h1
        rw [List.findIdx_lt_length] at h1
        unfold alKeep
        rw [List.filter_eq_self]
        intro a ha
        simp only [not_exists, not_and] at h1
        simpa using h1 a ha
    rw [hk]
    clear hg hr hne h0 hk
    go_enter Try.func24, Try.ntmps24
    go_wp2_with (go_at_call 31; refine kF.mono ?_; rintro e w1 ⟨rfl, hb1⟩)
    go_ret
    exact ⟨rfl, pw_own_below HR.out hb1, grown_of_below hb1 _⟩
  · obtain ⟨i0, hi0⟩ : ∃ i0 : Nat, alIx l key = (i0 : Int) := by
      unfold alIx at h0 ⊢
      by_cases hc : alIdx l key < l.length
      · exact ⟨_, if_pos hc⟩
      · rw [if_neg hc] at h0
        exact absurd rfl h0
    have HM := Aside0.mk (AlMid.start hi0)
    rw [hi0] at kF
    obtain ⟨n, hn⟩ : ∃ n, l.length = n := ⟨_, rfl⟩
    have HN := Aside0.mk hn
    have hi0n : i0 < n := by have := HM.out.2.2.1; omega
    obtain ⟨r, rfl⟩ := hr.ptr (by omega)
    rw [hn] at hl kF ⊢
    have hnc : n ≤ c := by
      rcases hr.2 with ⟨h2, _⟩ | ⟨g', cap, cur, he, hb, hh, hn', _⟩
      · cases h2
      · injection he with e1 e2 e3
        rw [← hn, e3]
        exact hn'
    clear hg hr hne h0 hi0 hn
    have d1 : ((i0 : Int) == -1) = false := by simp
    go_enter Try.func24, Try.ntmps24
    go_wp2_with (go_at_call 31; refine kF.mono ?_; rintro e w1 ⟨rfl, hb1⟩; have HB1 := Aside0.mk hb1; clear hb1)
    clear d1 kF
    go_loopg [5, 6] (n + 1) (fun gk p q wr => ∃ (i j : Nat) (d : List S58), n - j < gk ∧ i < j ∧ j ≤ n ∧ p = .int .i64 i ∧ q = .int .i64 j ∧ Aside0 (AlMid key l d i j ∧ AlRow B wr (.slice (some ⟨r, 0, none⟩) n c) d ∧ w.grownBy wr (some r)))
    case atStart => exact ⟨i0, i0 + 1, l, by omega, by omega, by omega, rfl, rfl, ⟨HM.out, by rw [← HN.out]; exact pw_own_below HR.out HB1.out, grown_of_below HB1.out _⟩⟩
    case round =>
      obtain ⟨i, j, d, hgk, hij, hj, rfl, rfl, HH⟩ := hrel
      by_cases hlt : j < n
      · have hjl : j < l.length := by rw [HN.out]; exact hlt
        obtain ⟨X, hX⟩ : ∃ X, l[j]? = some X := ⟨_, List.getElem?_eq_getElem hjl⟩
        have hdX : d[j]? = some X := (HH.out.1.at hjl).trans hX
        have hdl : d.length = n := HH.out.1.1.trans HN.out
        obtain ⟨x0, x1, x2⟩ := HH.out.2.1.at j X hdX
        have hrl : r < wr.heap.size := own_lt HH.out.2.1 r rfl
        have hgw : wr.cell? ⟨g, 0, none⟩ = some (.string key) := (World.grownBy.cell_far HH.out.2.2 ⟨g, 0, none⟩ (World.block_lt_of_cell? w _ HG.out) (fun e => HNE.out _ rfl (Option.some.inj e).symm)).trans HG.out
        have hRow2 : ∀ o, AlRow B (wr.alloc o) (.slice (some ⟨r, 0, none⟩) n c) d := fun o => pw_own_below HH.out.2.1 (below_alloc (Below.refl _ _) o)
        have hgw2 : ∀ o, (wr.alloc o).cell? ⟨g, 0, none⟩ = some (.string key) := fun o => (World.cell?_alloc_past o g 0 (World.block_lt_of_cell? wr _ hgw)).trans hgw
        have hP := predDrop_calls X g key (wr.alloc (alObj X)) (hgw2 _)
        have HX := Aside0.mk (And.intro hX hdl)
        have HR2 := Aside0.mk (hRow2 (alObj X))
        have HRL := Aside0.mk hrl
        clear hX hdX hgw hRow2 hgw2 hdl hrl
        cases hb : (X.f2 == key) with
        | true =>
          rw [hb] at hP
          have HM2 := Aside0.mk (HH.out.1.drop1 HX.out.1 hb)
          clear hb
          go_wp2_with (go_at_call 25; refine hP.mono ?_; rintro e w1 ⟨rfl, hb1⟩; have HB2 := Aside0.mk hb1; clear hb1)
          go_roundg (n - j)
          case measure => omega
          case rel => exact ⟨i, j + 1, d, by omega, by omega, by omega, rfl, rfl, ⟨HM2.out, pw_own_below HR2.out HB2.out, HH.out.2.2.trans ((grown_of_below (below_alloc (Below.refl _ _) (alObj X)) _).trans (grown_of_below HB2.out _))⟩⟩
        | false =>
          rw [hb] at hP
          have HM2 := Aside0.mk (HH.out.1.keep1 HX.out.1 hb)
          obtain ⟨Y, hY⟩ : ∃ Y, d[i]? = some Y := ⟨_, List.getElem?_eq_getElem (by have := HX.out.2; omega)⟩
          have HY := Aside0.mk hY
          clear hb hY
          go_wp2_with (go_at_call 25; refine hP.mono ?_; rintro e w1 ⟨rfl, hb1⟩; have HB2 := Aside0.mk hb1; have HR3 : Aside0 (AlRow B w1 (.slice (some ⟨r, 0, none⟩) n c) d) := ⟨pw_own_below HR2.out hb1⟩; have hbl := blk_below (heap_alloc_new wr (alObj X)) hb1; have z0 := (blk_cell hbl 0).trans rfl; have z1 := (blk_cell hbl 1).trans rfl; have z2 := (blk_cell hbl 2).trans rfl; obtain ⟨y0, y1, y2⟩ := HR3.out.at i Y HY.out; have fz := HR3.out.free; clear hb1 hbl)
          go_roundg (n - j)
          case measure => omega
          case rel =>
            have hs := HR3.out.setOne HX.out.2 i X (by have := HX.out.2; omega)
            exact ⟨i + 1, j + 1, d.set i X, by omega, by omega, by omega, rfl, rfl, ⟨HM2.out, hs.1, (HH.out.2.2.trans ((grown_of_below (below_alloc (Below.refl _ _) (alObj X)) _).trans (grown_of_below HB2.out _))).trans hs.2⟩⟩
      · obtain rfl : j = n := by omega
        have hfin : d.take i = alKeep key l := by have := HH.out.1; rw [← HN.out] at this; exact this.done
        have hdl : d.length = j := HH.out.1.1.trans HN.out
        obtain ⟨W', hcl, hrow, hgr⟩ := HH.out.2.1.wiped hdl i hij hl
        have hlen : (alKeep key l).length = i := by rw [← hfin]; simp; omega
        have HLN := Aside0.mk hlen
        rw [hfin] at hrow
        have HF := Aside0.mk (And.intro hrow (HH.out.2.2.trans hgr))
        clear hfin hdl hrow hgr hlen hlt
        go_wp2
        go_ret
        rw [HLN.out]
        exact ⟨rfl, HF.out⟩

end Go.Proofs.Ytlcnhmigbdaajaa.H
