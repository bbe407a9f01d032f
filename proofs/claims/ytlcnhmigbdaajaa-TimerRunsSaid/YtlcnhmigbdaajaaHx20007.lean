-- written by hp.py for this claim, out of the kit's printer and texts of my own
import Derived.Test.YtlcnhmigbdaajaaHx0
import Derived.Test.YtlcnhmigbdaajaaHx20001
import Derived.Test.YtlcnhmigbdaajaaHx20005
import Derived.Test.YtlcnhmigbdaajaaHx20006
import Derived.Test.YtlcnhmigbdaajaaHx20006
import Derived.Lib.Hide
import Derived.Deep.LoopGhost
import Derived.Deep.DeepCutAuto
import Derived.StillTailTactics
namespace Go.Proofs.Ytlcnhmigbdaajaa.H
open Go.RowKit Go.Proofs.YtlcnhmigbdaajaaW.PrintWords Go.Proofs.YtlcnhmigbdaajaaW.PrintLast Go.Proofs.YtlcnhmigbdaajaaW.PrintMore
attribute [local go_sem] max2_int min2_int max_two min_two max_three min_three max_four min_four   -- for this text's walks alone
set_option linter.unusedVariables false
set_option linter.unusedSimpArgs false

theorem new_calls (B : Nat) (W : World) (hB : B ≤ W.heap.size) : Calls Try.prog 9 #[] W fun e W' => e = .returned (.pointer (some ⟨W.heap.size, 0, none⟩)) ∧ TimAt B W' W.heap.size [] 0 (.slice none 0 0) ∧ Below W.heap.size W W' := by
  go_enter Try.func9, Try.ntmps9
  go_wp2
  go_ret
  exact ⟨rfl, ⟨heap_alloc_new _ _, own_nil _ _ _ _, hB⟩, below_alloc (Below.refl _ _) _⟩
theorem len_calls (B g : Nat) (l : List S58) (last : Int) (v : Value) (W : World) (h : TimAt B W g l last v) :
    Calls Try.prog 20 #[.pointer (some ⟨g, 0, none⟩)] W fun e W' => e = .returned (.int .i64 l.length) ∧ W = W' := by
  obtain ⟨A, c, rfl⟩ := own_slice h.own
  have q0 := h.cell
  clear h
  go_enter Try.func20, Try.ntmps20
  go_wp2
  go_ret
  exact ⟨rfl, rfl⟩
def alNext (l : List S58) : Int × Bool := match l with
  | [] => (0, false)
  | a :: _ => (a.f0, true)
theorem next_calls (B g : Nat) (l : List S58) (last : Int) (v : Value) (W : World) (h : TimAt B W g l last v) :
    Calls Try.prog 18 #[.pointer (some ⟨g, 0, none⟩)] W fun e W' => e = .returned (.tuple #[.int .i64 (alNext l).1, .bool (alNext l).2]) ∧ W = W' := by
  have kL := len_calls B g l last v W h
  cases l with
  | nil =>
    clear h
    go_enter Try.func18, Try.ntmps18
    go_wp2_with (go_at_call 20; refine kL.mono ?_; rintro e w1 ⟨rfl, rfl⟩)
    go_ret2
    exact ⟨rfl, rfl⟩
  | cons a l =>
    obtain ⟨A, c, rfl⟩ := own_slice h.own
    have hr : AlRow B W (.slice A (l.length + 1) c) (a :: l) := h.own
    obtain ⟨r, rfl⟩ := hr.ptr (by simp)
    obtain ⟨x0, x1, x2⟩ := hr.at 0 a rfl
    simp only [Nat.zero_mul] at x0
    have q0 := h.cell
    rw [List.length_cons] at kL q0
    have d : (((l.length + 1 : Nat) : Int) == 0) = false := by simp; omega
    clear h hr x1 x2
    go_enter Try.func18, Try.ntmps18
    go_wp2_with (go_at_call 20; refine kL.mono ?_; rintro e w1 ⟨rfl, rfl⟩)
    go_ret2
    exact ⟨rfl, rfl⟩
theorem has_calls (B g : Nat) (l : List S58) (last : Int) (v : Value) (key : ByteArray) (W : World) (h : TimAt B W g l last v) (hl : l.length ≤ 1000000) :
    Calls Try.prog 21 #[.pointer (some ⟨g, 0, none⟩), .string key] W fun e W' => e = .returned (.bool (l.any (fun x => x.f2 == key))) ∧ Below W.heap.size W W' := by
  obtain ⟨A, c, rfl⟩ := own_slice h.own
  have hA := h.below (below_alloc (Below.refl _ _) (.cells #[.string key] 9))
  have q0 := hA.cell
  have kC := contains_calls B W.heap.size key A c l (W.alloc (.cells #[.string key] 9)) hA.own hl ((blk_cell (heap_alloc_new _ _) 0).trans rfl)
  clear h hA
  go_enter Try.func21, Try.ntmps21
  go_wp2_with (go_at_call 28; refine kC.mono ?_; rintro e w1 ⟨rfl, hb1⟩)
  go_ret
  exact ⟨rfl, below_step (below_alloc (Below.refl _ _) _) hb1⟩
/-- behind a Drop -/
def alDropped (key : ByteArray) (l : List S58) : List S58 := alInit (alKeep key l)
def TimIs (B g : Nat) (W : World) (l : List S58) (last : Int) (W' : World) : Prop := ∃ v, TimAt B W' g l last v ∧ TimK B W W'
theorem alKeep_length (key : ByteArray) (l : List S58) : (alKeep key l).length ≤ l.length := List.length_filter_le _ _
set_option maxRecDepth 100000 in
set_option maxHeartbeats 1000000 in
theorem drop_calls (B g : Nat) (l : List S58) (last : Int) (v : Value) (key : ByteArray) (W : World) (h : TimAt B W g l last v) (hl : l.length ≤ 1000000) :
    Calls Try.prog 13 #[.pointer (some ⟨g, 0, none⟩), .string key] W fun e W' => e = .returned (.int .i64 ((l.length : Int) - (alKeep key l).length)) ∧ TimIs B g W (alDropped key l) last W' := by
  obtain ⟨A, c, rfl⟩ := own_slice h.own
  have hA := h.below (below_alloc (Below.refl _ _) (.cells #[.string key] 9))
  have q0 := hA.cell
  have f0 := hA.free 0
  have hlt : ∀ a, A = some a → a.block ≠ W.heap.size := fun a ha => by
    have := own_lt h.own a.block (by rw [ha]; rfl)
    omega
  have kC := deleteFunc_calls B W.heap.size key A c l (W.alloc (.cells #[.string key] 9)) hA.own hl ((blk_cell (heap_alloc_new _ _) 0).trans rfl) hlt
  have HA := Aside0.mk hA
  have HKL := alKeep_length key l
  clear h hA hlt
  go_enter Try.func13, Try.ntmps13
  go_wp2_with (first | (go_at_call 24; refine kC.mono ?_; rintro e w1 ⟨rfl, hr1, hg1⟩; have HR1 := Aside0.mk hr1; have HG1 := Aside0.mk hg1; have hb1 := blk_grown HA.out.blk hg1 HA.out.ne; have q1 := (blk_cell hb1 0).trans rfl; have f1 := blk_frozen hb1 0; have HT1 : Aside0 (TimAt B (w1.setCell ⟨g, 0, none⟩ (.slice A (alKeep key l).length c)) g (alKeep key l) last (.slice A (alKeep key l).length c)) := ⟨⟨blk_set hb1 0 _, own_setCell hr1 (own_ne hr1 hb1 (by decide)) _, HA.out.base⟩⟩; have HK1 : Aside0 (TimK B W (w1.setCell ⟨g, 0, none⟩ (.slice A (alKeep key l).length c))) := ⟨(((TimK.of_below (below_alloc (Below.refl _ _) (.cells #[.string key] 9))).grown HA.out.own hg1).set hb1 HA.out.base 0 _)⟩; have kI := heapInit_calls B g (alKeep key l) last _ _ HT1.out (by omega); clear kC hr1 hg1 hb1) | (go_at_call 26; refine kI.mono ?_; rintro e w2 ⟨rfl, hT2, hK2⟩; have HT2 := Aside0.mk hT2; have HK2 := Aside0.mk hK2; have q2 := HT2.out.cell; clear kI hT2 hK2))
  go_ret
  exact ⟨rfl, _, HT2.out, HK1.out.trans HK2.out⟩

end Go.Proofs.Ytlcnhmigbdaajaa.H
