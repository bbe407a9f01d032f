-- written by hp.py for this claim, out of the kit's printer and texts of my own
import Derived.Test.YtepdfpclicdpfaaHx0
import Derived.Test.YtepdfpclicdpfaaHx20002
import Derived.Lib.Hide
import Derived.Deep.LoopGhost
import Derived.Deep.DeepCutAuto
namespace Go.Proofs.Ytepdfpclicdpfaa.H
open Go.RowKit Go.Proofs.YtepdfpclicdpfaaW.PrintWords Go.Proofs.YtepdfpclicdpfaaW.PrintLast Go.Proofs.YtepdfpclicdpfaaW.PrintMore
attribute [local go_sem] max2_int min2_int max_two min_two max_three min_three max_four min_four   -- for this text's walks alone
set_option linter.unusedVariables false
set_option linter.unusedSimpArgs false

/-- whether this is the kid that is looked for -/
def kidP (sp nm : ByteArray) (x : S25) : Bool := (x.f0.toList == sp.toList) && (x.f1.toList == nm.toList)
set_option maxHeartbeats 1000000 in
set_option maxRecDepth 100000 in
theorem kidP_calls (x : S25) (v2 v4 : Value) (hv2 : v2.oneCell' = true) (hv4 : v4.oneCell' = true) (g4 g5 : Nat) (sp nm : ByteArray) (w : World) (h4 : w.cell? ⟨g4, 0, none⟩ = some (.string sp)) (h5 : w.cell? ⟨g5, 0, none⟩ = some (.string nm)) (A2 A4 : Option Addr) (n2 c2 n4 c4 : Nat) :
    Calls Try.prog 31 #[.agg #[.string x.f0, .string x.f1, .slice A2 n2 c2, .string x.f3, .slice A4 n4 c4], .pointer (some ⟨g4, 0, none⟩), .pointer (some ⟨g5, 0, none⟩)] w fun e w' => e = .returned (.bool (kidP sp nm x)) ∧ Below w.heap.size w w' := by
  have hl4 : g4 < w.heap.size := World.block_lt_of_cell? w _ h4
  have hl5 : g5 < w.heap.size := World.block_lt_of_cell? w _ h5
  have HX4 := Aside0.mk h4
  have HX5 := Aside0.mk h5
  have hp : kidP sp nm x = ((x.f0.toList == sp.toList) && (x.f1.toList == nm.toList)) := rfl
  rw [hp]
  clear h4 h5 hp
  obtain ⟨f0, f1, f2, f3, f4⟩ := x
  simp only
  have hu25 := Try.underlying25
  go_enter Try.func31, Try.ntmps31
  go_upto_region 1 with (first
    | ((with_reducible refine gate_dst (N := 3) rfl ?_); refine box_event ?hg (N := 3) ?hd (cs := #[.string f0, .string f1, .slice A2 n2 c2, .string f3, .slice A4 n4 c4]) (t := 25) ?hr ?_; (case hd => rfl); (case hg => rfl); (case hr => first | (go_simp; done) | (go_simp; rfl)); intro gb hg w1 hbox hb; have HBX := Aside0.mk hbox; have HB1 := Aside0.mk hb; clear hg hb hbox)
    | fail)
  have hcz0 : w1.cell? ⟨gb, 0, none⟩ = some (.string f0) := (blk_cell HBX.out 0).trans rfl
  have hcz1 : w1.cell? ⟨gb, 1, none⟩ = some (.string f1) := (blk_cell HBX.out 1).trans rfl
  have hc4 : w1.cell? ⟨g4, 0, none⟩ = some (.string sp) := (HB1.out.cell hl4).trans HX4.out
  have hc5 : w1.cell? ⟨g5, 0, none⟩ = some (.string nm) := (HB1.out.cell hl5).trans HX5.out
  cases h0 : (f0.toList == sp.toList) with
  | true =>
    go_wp2_with (fail)
    go_ret
    refine ⟨?_, HB1.out⟩
    first | rfl | (simp; done) | (simp [h0]; done) | (cases h1 : (f1.toList == nm.toList) <;> simp_all)
  | false =>
    go_wp2_with (fail)
    go_ret
    refine ⟨?_, HB1.out⟩
    first | rfl | (simp; done) | (simp [h0]; done) | (cases h1 : (f1.toList == nm.toList) <;> simp_all)
/-- the first of which p says so -/
def elIdx (l : List S25) (p : S25 → Bool) : Nat := l.findIdx p
def elIx (l : List S25) (p : S25 → Bool) : Int := if elIdx l p < l.length then (elIdx l p : Int) else -1
theorem elIdx_at {l : List S25} {p : S25 → Bool} {k : Nat} (h : ∀ j, (hj : j < k) → (hl : j < l.length) → p (l[j]) = false) (hk : k < l.length) (hp : p (l[k]) = true) : elIdx l p = k := by
  unfold elIdx
  rw [List.findIdx_eq hk]
  exact ⟨hp, fun j hj => by simpa using h j hj (by omega)⟩
theorem elIdx_none {l : List S25} {p : S25 → Bool} (h : ∀ j, (hl : j < l.length) → p (l[j]) = false) : elIdx l p = l.length := by
  unfold elIdx
  rw [List.findIdx_eq_length]
  intro x hx
  obtain ⟨j, hj, rfl⟩ := List.getElem_of_mem hx
  exact h j hj
set_option maxRecDepth 100000 in
set_option maxHeartbeats 1000000 in
theorem findKid_calls (g4 g5 : Nat) (sp nm : ByteArray) (A : Option Addr) (c : Nat) (l : List S25) (w : World) (hr : Kd.C k25 w A l.length l) (hl : l.length ≤ 100000000) (h4 : w.cell? ⟨g4, 0, none⟩ = some (.string sp)) (h5 : w.cell? ⟨g5, 0, none⟩ = some (.string nm)) :
    Calls Try.prog 30 #[.slice A l.length c, .func (.func 31) #[] #[.pointer (some ⟨g4, 0, none⟩), .pointer (some ⟨g5, 0, none⟩)]] w fun e w' => e = .returned (.int .i64 (elIx l (kidP sp nm))) ∧ Below w.heap.size w w' := by
  have HG4 := Aside0.mk h4
  have HG5 := Aside0.mk h5
  have HR := Aside0.mk hr
  obtain ⟨p, hp⟩ : ∃ p, kidP sp nm = p := ⟨_, rfl⟩
  rw [hp]
  have HPP := Aside0.mk hp
  obtain ⟨n, hn⟩ : ∃ n, l.length = n := ⟨_, rfl⟩
  have HN := Aside0.mk hn
  rw [hn] at hl ⊢
  clear h4 h5 hr hn hp
  go_enter Try.func30, Try.ntmps30
  go_wp2
  go_loopg [8] (n + 1) (fun gk i wr => ∃ k : Nat, n - k < gk ∧ k ≤ n ∧ i = .int .i64 k ∧ Aside0 ((∀ j, (hj : j < k) → (hl : j < l.length) → p (l[j]) = false) ∧ Below w.heap.size w wr))
  case atStart => exact ⟨0, by omega, Nat.zero_le _, rfl, ⟨fun j hj => absurd hj (Nat.not_lt_zero j), Below.refl _ _⟩⟩
  case round =>
    obtain ⟨k, hgk, hk, rfl, HH⟩ := hrel
    by_cases hlt : k < n
    · have hkl : k < l.length := by rw [HN.out]; exact hlt
      have hd0 : decide ((k : Int) < (n : Int)) = true := decide_eq_true (by omega)
      obtain ⟨ad, B2, d2, B4, d4, e4, hx0, hx1, hx2, hx3, hx4, hl2, hg2, hl4, hg4⟩ := at_T25 HR.out (k : Int) (by omega) (by have := HN.out; omega)
      obtain ⟨x, hx⟩ : ∃ x, rd_T25 l (k : Int) = x := ⟨_, rfl⟩
      rw [hx, Int.toNat_natCast] at hx0 hx1 hx2 hx3 hx4
      cases e4
      replace hx0 := (HH.out.2.cell (World.block_lt_of_cell? w _ hx0)).trans hx0
      replace hx1 := (HH.out.2.cell (World.block_lt_of_cell? w _ hx1)).trans hx1
      replace hx2 := (HH.out.2.cell (World.block_lt_of_cell? w _ hx2)).trans hx2
      replace hx3 := (HH.out.2.cell (World.block_lt_of_cell? w _ hx3)).trans hx3
      replace hx4 := (HH.out.2.cell (World.block_lt_of_cell? w _ hx4)).trans hx4
      have hXe : l[k] = x := by rw [← hx]; simp [rd_T25, hkl]
      have HX := Aside0.mk hXe
      have hc4 : wr.cell? ⟨g4, 0, none⟩ = some (.string sp) := (HH.out.2.cell (World.block_lt_of_cell? w _ HG4.out)).trans HG4.out
      have hc5 : wr.cell? ⟨g5, 0, none⟩ = some (.string nm) := (HH.out.2.cell (World.block_lt_of_cell? w _ HG5.out)).trans HG5.out
      have hP := kidP_calls x (.slice B2 0 0) (.slice B4 0 0) rfl rfl g4 g5 sp nm wr hc4 hc5 B2 B4 x.f2.length d2 x.f4.length d4
      rw [HPP.out] at hP
      clear hXe hx hl2 hg2 hl4 hg4 hc4 hc5
      obtain ⟨m2, hm2⟩ : ∃ m, x.f2.length = m := ⟨_, rfl⟩
      obtain ⟨m4, hm4⟩ : ∃ m, x.f4.length = m := ⟨_, rfl⟩
      rw [hm2] at hx2 hP
      rw [hm4] at hx4 hP
      clear hm2 hm4
      cases hb : p x with
      | true =>
        rw [hb] at hP
        have hz : elIx l p = k := by unfold elIx; rw [elIdx_at HH.out.1 hkl (by rw [HX.out]; exact hb), if_pos hkl]
        have HZ := Aside0.mk hz
        clear hz hb
        go_wp2_with (fail)
        refine hP.mono ?_
        rintro e w1 ⟨rfl, hb1⟩
        go_wp2_with (fail)
        go_ret
        rw [HZ.out]
        exact ⟨rfl, below_step HH.out.2 hb1⟩
      | false =>
        rw [hb] at hP
        have hno : ∀ j, (hj : j < k + 1) → (hl : j < l.length) → p (l[j]) = false := by
          intro j hj hl
          by_cases hjk : j < k
          · exact HH.out.1 j hjk hl
          · obtain rfl : j = k := by omega
            rw [HX.out]; exact hb
        have HNO := Aside0.mk hno
        clear hb hno
        go_wp2_with (fail)
        refine hP.mono ?_
        rintro e w1 ⟨rfl, hb1⟩
        go_wp2_with (fail)
        go_roundg (n - k)
        case measure => omega
        case rel => exact ⟨k + 1, by omega, by omega, rfl, ⟨HNO.out, below_step HH.out.2 hb1⟩⟩
    · have hd0 : decide ((k : Int) < (n : Int)) = false := decide_eq_false (by omega)
      have hz : elIx l p = -1 := by
        unfold elIx
        rw [elIdx_none (l := l) (p := p) (fun j hl => HH.out.1 j (by have := HN.out; omega) hl), if_neg (by omega)]
      have HZ := Aside0.mk hz
      clear hz
      go_wp2
      go_ret
      rw [HZ.out]
      exact ⟨rfl, HH.out.2⟩
/-- what Kid returns: nothing found, or the element's cells as they lie in memory -/
def KidIs (w : World) (l : List S25) (p : S25 → Bool) (cs : Array Value) (ok : Bool) : Prop :=
  (elIdx l p < l.length ∧ ok = true ∧ ∃ x, l[elIdx l p]? = some x ∧ k25.K w x cs.toList) ∨ (¬ elIdx l p < l.length ∧ ok = false ∧ cs = #[.string ⟨#[]⟩, .string ⟨#[]⟩, .slice none 0 0, .string ⟨#[]⟩, .slice none 0 0])
theorem info25 : (Try.prog.info? 25).map (·.size) = some 5 := by kernel_rfl
theorem below_five {w W : World} {g : Nat} (h : Below w.heap.size w W) (hg : w.heap.size ≤ g) (a0 a1 a2 a3 a4 : Value) : Below w.heap.size w (((((W.setCell ⟨g, 0, none⟩ a0).setCell ⟨g, 1, none⟩ a1).setCell ⟨g, 2, none⟩ a2).setCell ⟨g, 3, none⟩ a3).setCell ⟨g, 4, none⟩ a4) :=
  below_set (below_set (below_set (below_set (below_set h hg) hg) hg) hg) hg
theorem blk_five {W : World} {g : Nat} {t : TypeId} {b0 b1 b2 b3 b4 : Value} (h : W.heap[g]? = some (.cells #[b0, b1, b2, b3, b4] t (0, 0))) (a0 a1 a2 a3 a4 : Value) : (((((W.setCell ⟨g, 0, none⟩ a0).setCell ⟨g, 1, none⟩ a1).setCell ⟨g, 2, none⟩ a2).setCell ⟨g, 3, none⟩ a3).setCell ⟨g, 4, none⟩ a4).heap[g]? = some (.cells #[a0, a1, a2, a3, a4] t (0, 0)) :=
  blk_put (blk_put (blk_put (blk_put (blk_put h 0 _ rfl) 1 _ rfl) 2 _ rfl) 3 _ rfl) 4 _ rfl
set_option maxRecDepth 100000 in
set_option maxHeartbeats 2000000 in
theorem kid_calls (e : S25) (sp nm : ByteArray) (A2 A4 : Option Addr) (c2 c4 : Nat) (w : World) (hc4 : e.f4.length ≤ c4) (h4 : Kd.C k25 w A4 e.f4.length e.f4) (hl : e.f4.length ≤ 100000000) :
    Calls Try.prog 15 #[.agg #[.string e.f0, .string e.f1, .slice A2 e.f2.length c2, .string e.f3, .slice A4 e.f4.length c4], .string sp, .string nm] w
      fun r w' => ∃ cs ok, r = .returned (.tuple #[.agg cs, .bool ok]) ∧ KidIs w e.f4 (kidP sp nm) cs ok ∧ Below w.heap.size w w' := by
  obtain ⟨f0, f1, f2, f3, f4⟩ := e
  simp only at hc4 h4 hl ⊢
  have HX4 := Aside0.mk h4
  have hfind := fun g4 g5 W hb h1 h2 => findKid_calls g4 g5 sp nm A4 c4 f4 W (Kd.C_below h4 hb) hl h1 h2
  obtain ⟨p, hp⟩ : ∃ p, kidP sp nm = p := ⟨_, rfl⟩
  rw [hp] at hfind ⊢
  obtain ⟨z, hz⟩ : ∃ z, elIx f4 p = z := ⟨_, rfl⟩
  rw [hz] at hfind
  have HF := Aside0.mk hfind
  have HZ := Aside0.mk hz
  obtain ⟨n2, hn2⟩ : ∃ n, f2.length = n := ⟨_, rfl⟩
  obtain ⟨n4, hn4⟩ : ∃ n, f4.length = n := ⟨_, rfl⟩
  have HN4 := Aside0.mk hn4
  have HG : Aside0 (∀ r w', (∃ cs ok, r = Ending.returned (.tuple #[.agg cs, .bool ok]) ∧ KidIs w f4 p cs ok ∧ Below w.heap.size w w') → (∃ cs ok, r = Ending.returned (.tuple #[.agg cs, .bool ok]) ∧ KidIs w f4 p cs ok ∧ Below w.heap.size w w')) := ⟨fun _ _ h => h⟩
  rw [hn2, hn4]
  rw [hn4] at hc4 hl
  clear h4 hfind hz hn2 hn4 hp
  have hu25 := Try.underlying25
  go_enter Try.func15, Try.ntmps15
  go_upto_region 1 with (first
    | ((with_reducible refine gate_dst (N := 3) rfl ?_); refine box_event ?hg (N := 3) ?hd (cs := #[.string f0, .string f1, .slice A2 n2 c2, .string f3, .slice A4 n4 c4]) (t := 25) ?hr ?_; (case hd => rfl); (case hg => rfl); (case hr => first | (go_simp; done) | (go_simp; rfl)); intro gb hg w1 hbox hb; have HBX := Aside0.mk hbox; have HB1 := Aside0.mk hb; have hsz1 := hb.size; have hgb := blk_lt hbox; clear hg hb hbox)
    | fail)
  obtain ⟨w3, hw3⟩ : ∃ w3, (((w1.alloc (Obj.cells #[Value.string sp] 9)).alloc (Obj.cells #[Value.string nm] 9)).alloc (Obj.cells #[Value.string { data := #[] }, Value.string { data := #[] }, Value.slice none 0 0, Value.string { data := #[] }, Value.slice none 0 0] 25)) = w3 := ⟨_, rfl⟩
  rw [hw3]
  have hB3 : Below w1.heap.size w1 w3 := by rw [← hw3]; exact (((Below.refl _ _).alloc (Nat.le_refl _) _).alloc (by rw [Deep.nblk_alloc]; omega) _).alloc (by rw [Deep.nblk_alloc, Deep.nblk_alloc]; omega) _
  have h43 : w3.heap[w1.heap.size]? = some (.cells #[.string sp] 9 (0, 0)) := by rw [← hw3]; exact blk_alloc (blk_alloc (blk_new w1 _) _) _
  have h53 : w3.heap[w1.heap.size + 1]? = some (.cells #[.string nm] 9 (0, 0)) := by rw [← hw3, ← Deep.nblk_alloc w1 (Obj.cells #[Value.string sp] 9)]; exact blk_alloc (blk_new _ _) _
  have h63 : w3.heap[w1.heap.size + 1 + 1]? = some (.cells #[.string ⟨#[]⟩, .string ⟨#[]⟩, .slice none 0 0, .string ⟨#[]⟩, .slice none 0 0] 25 (0, 0)) := by rw [← hw3, ← Deep.nblk_alloc w1 (Obj.cells #[Value.string sp] 9), ← Deep.nblk_alloc (w1.alloc (Obj.cells #[Value.string sp] 9)) (Obj.cells #[Value.string nm] 9)]; exact blk_new _ _
  have hbx3 := blk_below HBX.out hB3
  have hBw3 : Below w.heap.size w w3 := HB1.out.trans (hB3.mono hsz1)
  generalize hg6 : w1.heap.size + 1 + 1 = g6 at *
  generalize hg5 : w1.heap.size + 1 = g5 at *
  generalize hg4 : w1.heap.size = g4 at *
  have hw6 : w.heap.size ≤ g6 := by omega
  have hcz4 : w3.cell? ⟨gb, 4, none⟩ = some (.slice A4 n4 c4) := (blk_cell hbx3 4).trans rfl
  have hcall := HF.out g4 g5 w3 hBw3 ((blk_cell h43 0).trans rfl) ((blk_cell h53 0).trans rfl)
  rw [HN4.out] at hcall
  have H63 := Aside0.mk h63
  have HBX3 := Aside0.mk hbx3
  have HBW3 := Aside0.mk hBw3
  clear hw3 h43 h53 h63 hbx3 hBw3 hB3 HF
  go_wp2_with (fail)
  refine hcall.mono ?_
  rintro e w4 ⟨rfl, hb4⟩
  have H64 := Aside0.mk (blk_below H63.out hb4)
  have HBX4 := Aside0.mk (blk_below HBX3.out hb4)
  have HBW4 := Aside0.mk (below_step HBW3.out hb4)
  clear hb4 hcall hcz4
  by_cases hlt : elIdx f4 p < n4
  · have hlt2 : elIdx f4 p < f4.length := by rw [HN4.out]; exact hlt
    obtain ⟨k, hk⟩ : ∃ k, elIdx f4 p = k := ⟨_, rfl⟩
    have hz : z = (k : Int) := by rw [← HZ.out, ← hk]; unfold elIx; rw [if_pos hlt2]
    subst hz
    rw [hk] at hlt hlt2
    have HK := Aside0.mk hk
    obtain ⟨ad, B2, d2, B4, d4, e4, hx0, hx1, hx2, hx3, hx4, hl2, hg2, hl4, hg4'⟩ := at_T25 HX4.out (k : Int) (by omega) (by omega)
    obtain ⟨x, hx⟩ : ∃ x, rd_T25 f4 (k : Int) = x := ⟨_, rfl⟩
    rw [hx, Int.toNat_natCast] at hx0 hx1 hx2 hx3 hx4
    rw [hx] at hl2 hg2 hl4 hg4'
    cases e4
    replace hx0 := (HBW4.out.cell (World.block_lt_of_cell? w _ hx0)).trans hx0
    replace hx1 := (HBW4.out.cell (World.block_lt_of_cell? w _ hx1)).trans hx1
    replace hx2 := (HBW4.out.cell (World.block_lt_of_cell? w _ hx2)).trans hx2
    replace hx3 := (HBW4.out.cell (World.block_lt_of_cell? w _ hx3)).trans hx3
    replace hx4 := (HBW4.out.cell (World.block_lt_of_cell? w _ hx4)).trans hx4
    have hXe : f4[k]? = some x := by rw [List.getElem?_eq_getElem hlt2, ← hx]; simp [rd_T25, hlt2]
    have HK25 := Aside0.mk (k25_mk w x hl2 hg2 hl4 hg4')
    have HXE := Aside0.mk hXe
    have hcz4 : w4.cell? ⟨gb, 4, none⟩ = some (.slice (some ad) n4 c4) := (blk_cell HBX4.out 4).trans rfl
    clear hx hk hXe hl2 hg2 hl4 hg4'
    obtain ⟨m2, hm2⟩ : ∃ m, x.f2.length = m := ⟨_, rfl⟩
    obtain ⟨m4, hm4⟩ : ∃ m, x.f4.length = m := ⟨_, rfl⟩
    rw [hm2] at hx2 HK25
    rw [hm4] at hx4 HK25
    clear hm2 hm4
    have hd0 : decide ((k : Int) < 0) = false := decide_eq_false (by omega)
    have hd1 : decide ((k : Int) < (n4 : Int)) = true := decide_eq_true (by omega)
    have hc60 : w4.cell? ⟨g6, 0, none⟩ = some (.string ⟨#[]⟩) := (blk_cell H64.out 0).trans rfl
    have hf60 : w4.frozen? ⟨g6, 0, none⟩ = false := blk_frozen H64.out 0
    have hc61 : w4.cell? ⟨g6, 1, none⟩ = some (.string ⟨#[]⟩) := (blk_cell H64.out 1).trans rfl
    have hf61 : w4.frozen? ⟨g6, 1, none⟩ = false := blk_frozen H64.out 1
    have hc62 : w4.cell? ⟨g6, 2, none⟩ = some (.slice none 0 0) := (blk_cell H64.out 2).trans rfl
    have hf62 : w4.frozen? ⟨g6, 2, none⟩ = false := blk_frozen H64.out 2
    have hc63 : w4.cell? ⟨g6, 3, none⟩ = some (.string ⟨#[]⟩) := (blk_cell H64.out 3).trans rfl
    have hf63 : w4.frozen? ⟨g6, 3, none⟩ = false := blk_frozen H64.out 3
    have hc64 : w4.cell? ⟨g6, 4, none⟩ = some (.slice none 0 0) := (blk_cell H64.out 4).trans rfl
    have hf64 : w4.frozen? ⟨g6, 4, none⟩ = false := blk_frozen H64.out 4
    go_wp2_with (fail)
    refine bodyPost_ret (results_ct rfl _ _ g6 25 _ (0, 0) _ rfl (blk_five H64.out _ _ _ _ _) hu25 rfl info25) rfl ?_
    exact ⟨_, true, rfl, Or.inl ⟨by rw [HK.out]; exact hlt2, rfl, x, by rw [HK.out]; exact HXE.out, HK25.out⟩, below_five HBW4.out hw6 _ _ _ _ _⟩
  · have hz : z = -1 := by rw [← HZ.out]; unfold elIx; rw [if_neg (by rw [HN4.out]; exact hlt)]
    subst hz
    have hc60 : w4.cell? ⟨g6, 0, none⟩ = some (.string ⟨#[]⟩) := (blk_cell H64.out 0).trans rfl
    have hf60 : w4.frozen? ⟨g6, 0, none⟩ = false := blk_frozen H64.out 0
    have hc61 : w4.cell? ⟨g6, 1, none⟩ = some (.string ⟨#[]⟩) := (blk_cell H64.out 1).trans rfl
    have hf61 : w4.frozen? ⟨g6, 1, none⟩ = false := blk_frozen H64.out 1
    have hc62 : w4.cell? ⟨g6, 2, none⟩ = some (.slice none 0 0) := (blk_cell H64.out 2).trans rfl
    have hf62 : w4.frozen? ⟨g6, 2, none⟩ = false := blk_frozen H64.out 2
    have hc63 : w4.cell? ⟨g6, 3, none⟩ = some (.string ⟨#[]⟩) := (blk_cell H64.out 3).trans rfl
    have hf63 : w4.frozen? ⟨g6, 3, none⟩ = false := blk_frozen H64.out 3
    have hc64 : w4.cell? ⟨g6, 4, none⟩ = some (.slice none 0 0) := (blk_cell H64.out 4).trans rfl
    have hf64 : w4.frozen? ⟨g6, 4, none⟩ = false := blk_frozen H64.out 4
    go_wp2_with (fail)
    refine bodyPost_ret (results_ct rfl _ _ g6 25 _ (0, 0) _ rfl (blk_five H64.out _ _ _ _ _) hu25 rfl info25) rfl ?_
    exact ⟨_, false, rfl, Or.inr ⟨by rw [HN4.out]; exact hlt, rfl, rfl⟩, below_five HBW4.out hw6 _ _ _ _ _⟩

end Go.Proofs.Ytepdfpclicdpfaa.H
