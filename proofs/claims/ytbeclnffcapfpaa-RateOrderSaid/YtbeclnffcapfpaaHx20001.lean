-- written by hp.py for this claim, out of the kit's printer and texts of my own
import Derived.Test.YtbeclnffcapfpaaHx0
namespace Go.Proofs.Ytbeclnffcapfpaa.H
open Go.RowKit Go.Proofs.YtbeclnffcapfpaaW.PrintWords Go.Proofs.YtbeclnffcapfpaaW.PrintLast Go.Proofs.YtbeclnffcapfpaaW.PrintMore
attribute [local go_sem] max2_int min2_int max_two min_two max_three min_three max_four min_four   -- for this text's walks alone
set_option linter.unusedVariables false
set_option linter.unusedSimpArgs false

def rateIdx (l : List S41) (kind : Int) : Nat := l.findIdx (fun x => x.f0 == kind)
def rateIx (l : List S41) (kind : Int) : Int := if rateIdx l kind < l.length then (rateIdx l kind : Int) else -1
set_option maxHeartbeats 1000000 in
theorem ratePred (x : S41) (A9 A10 : Option Addr) (c9 c10 : Nat) (g : Nat) (kind : Int) (w : World) (hg : w.cell? ⟨g, 0, none⟩ = some (.int .i64 kind)) :
    Calls Try.prog 34 #[.agg #[.int .i64 x.f0, .string x.f1, .string x.f2, .string x.f3, .int .i64 x.f4, .int .i64 x.f5, .int .i64 x.f6, .int .i64 x.f7, .bool x.f8, .slice A9 x.f9.length c9, .slice A10 x.f10.length c10], .pointer (some ⟨g, 0, none⟩)] w fun e w' => e = .returned (.bool (x.f0 == kind)) ∧ Below w.heap.size w w' := by
  have hlt : g < w.heap.size := World.block_lt_of_cell? w _ hg
  have hg' : ∀ o, (w.alloc o).cell? ⟨g, 0, none⟩ = some (.int .i64 kind) := fun o => (World.cell?_alloc_past o g 0 hlt).trans hg
  clear hg
  go_enter Try.func34, Try.ntmps34
  go_wp2
  go_ret
  exact ⟨rfl, (Below.refl _ _).alloc (Nat.le_refl _) _⟩
theorem rateIdx_at {l : List S41} {kind : Int} {k : Nat} (h : ∀ j, (hj : j < k) → (hl : j < l.length) → ((l[j]).f0 == kind) = false) (hk : k < l.length) (hp : ((l[k]).f0 == kind) = true) : rateIdx l kind = k := by
  unfold rateIdx
  rw [List.findIdx_eq hk]
  exact ⟨hp, fun j hj => by simpa using h j hj (by omega)⟩
theorem rateIdx_none {l : List S41} {kind : Int} (h : ∀ j, (hl : j < l.length) → ((l[j]).f0 == kind) = false) : rateIdx l kind = l.length := by
  unfold rateIdx
  rw [List.findIdx_eq_length]
  intro x hx
  obtain ⟨j, hj, rfl⟩ := List.getElem_of_mem hx
  exact h j hj
set_option maxRecDepth 100000 in
set_option maxHeartbeats 4000000 in
theorem rateFind (g : Nat) (kind : Int) (A : Option Addr) (c : Nat) (l : List S41) (w : World) (hr : k41.C w A l.length l) (hg : w.cell? ⟨g, 0, none⟩ = some (.int .i64 kind)) :
    Calls Try.prog 33 #[.slice A l.length c, .func (.func 34) #[] #[.pointer (some ⟨g, 0, none⟩)]] w fun e w' => e = .returned (.int .i64 (rateIx l kind)) ∧ Below w.heap.size w w' := by
  have hm := hr.2.1
  go_enter Try.func33, Try.ntmps33
  go_wp2
  go_loopw [8] (fun i wr => ∃ k : Nat, k ≤ l.length ∧ i = .int .i64 k ∧ (∀ j, (hj : j < k) → (hl : j < l.length) → ((l[j]).f0 == kind) = false) ∧ Below w.heap.size w wr) (fun i _ => l.length - (intOf i).toNat)
  case atStart => exact ⟨0, Nat.zero_le _, rfl, fun j hj => absurd hj (Nat.not_lt_zero j), Below.refl _ _⟩
  case round =>
    obtain ⟨k, hk, rfl, hno, hB⟩ := hrel
    by_cases hlt : k < l.length
    · have d0 : decide ((k : Int) < (l.length : Int)) = true := decide_eq_true (by omega)
      obtain ⟨ad, A9, c9, A10, c10, hA, x0, x1, x2, x3, x4, x5, x6, x7, x8, x9, x10, _, _, _, _⟩ := at_T41 (Kd.C_below hr hB) (k : Int) (by omega) (by omega)
      subst hA
      have e1 : rd_T41 l (k : Int) = l[k] := by simp [rd_T41, List.getD_eq_getElem?_getD, hlt]
      rw [Int.toNat_natCast] at x0 x1 x2 x3 x4 x5 x6 x7 x8 x9 x10
      generalize hX : rd_T41 l (k : Int) = X at *
      have hgw : wr.cell? ⟨g, 0, none⟩ = some (.int .i64 kind) := (hB.cell (p := ⟨g, 0, none⟩) (World.block_lt_of_cell? w _ hg)).trans hg
      have hP := ratePred X A9 A10 c9 c10 g kind wr hgw
      cases hb : (X.f0 == kind) with
      | true =>
        rw [hb] at hP
        have hZ : Aside0 (rateIx l kind = k) := ⟨by unfold rateIx; rw [rateIdx_at hno hlt (by rw [← e1]; exact hb), if_pos hlt]⟩
        clear hno hb hX e1 hgw
        go_wp2_with (go_at_call 34; refine hP.mono ?_; rintro e w1 ⟨rfl, hb1⟩)
        go_ret
        rw [hZ.out]
        exact ⟨rfl, below_step hB hb1⟩
      | false =>
        rw [hb] at hP
        have hno2 : ∀ j, (hj : j < k + 1) → (hl : j < l.length) → ((l[j]).f0 == kind) = false := by
          intro j hj hl
          by_cases hjk : j < k
          · exact hno j hjk hl
          · obtain rfl : j = k := by omega
            rw [← e1]; exact hb
        clear hb hX e1 hgw
        have hNO := Aside0.mk hno2
        clear hno2 hno
        go_wp2_with (go_at_call 34; refine hP.mono ?_; rintro e w1 ⟨rfl, hb1⟩)
        go_roundw
        case rel => exact ⟨k + 1, by omega, by go_num, hNO.out, below_step hB hb1⟩
        case measure => simp [intOf]; omega
    · have d0 : decide ((k : Int) < (l.length : Int)) = false := decide_eq_false (by omega)
      have hz := rateIdx_none (l := l) (kind := kind) (fun j hl => hno j (by omega) hl)
      have hZ : Aside0 (rateIx l kind = -1) := ⟨by unfold rateIx; rw [hz, if_neg (by omega)]⟩
      clear hno hz
      go_wp2
      go_ret
      rw [hZ.out]
      exact ⟨rfl, hB⟩
def rate_PushIdx.f (l : List (S41)) (kind : Int) : Option Int := some (rateIx l kind)
theorem rate_PushIdx.calls (A0 : Option Addr) (c0 : Nat) (l0 : List (S41)) (a1 : Int) (r : Int) (w : World) (hr0 : Kd.C k41 w A0 l0.length l0) (hc0 : l0.length ≤ c0) (h : rate_PushIdx.f l0 a1 = some r) {g : Nat}
    (hg : w.cell? ⟨g, 0, none⟩ = some (.int .i64 a1) := by first | assumption | exact (blk_cell (by (with_reducible repeat (first | refine blk_drewN ?_ _ | refine blk_drew ?_ | refine blk_alloc ?_ _)); exact Aside0.out (by assumption)) 0).trans rfl) :
    Calls Try.prog 33 #[.slice A0 l0.length c0, .func (.func 34) #[] #[.pointer (some ⟨g, 0, none⟩)]] w fun e w' => e = .returned (.int .i64 r) ∧ Below w.heap.size w w' := by
  have h' : rateIx l0 a1 = r := Option.some.inj h
  rw [← h']
  exact rateFind g a1 A0 c0 l0 w hr0 hg

end Go.Proofs.Ytbeclnffcapfpaa.H
