-- written by hp.py for this claim, out of the kit's printer and texts of my own
import Derived.Test.YtlcnhmigbdaajaaHx0
import Derived.Test.YtlcnhmigbdaajaaHx8
import Derived.Test.YtlcnhmigbdaajaaHx20001
import Derived.Test.YtlcnhmigbdaajaaHx20005
import Derived.Test.YtlcnhmigbdaajaaHx20006
import Derived.Test.YtlcnhmigbdaajaaHx20007
import Derived.Test.YtlcnhmigbdaajaaHx20008
import Derived.Test.YtlcnhmigbdaajaaHx20009
import Derived.Test.YtlcnhmigbdaajaaHx20010
import Derived.Test.YtlcnhmigbdaajaaHx20010
import Derived.Test.YtlcnhmigbdaajaaHx8
import Derived.Lib.Hide
import Derived.Deep.LoopGhost
namespace Go.Proofs.Ytlcnhmigbdaajaa.H
open Go.RowKit Go.Proofs.YtlcnhmigbdaajaaW.PrintWords Go.Proofs.YtlcnhmigbdaajaaW.PrintLast Go.Proofs.YtlcnhmigbdaajaaW.PrintMore
attribute [local go_sem] max2_int min2_int max_two min_two max_three min_three max_four min_four   -- for this text's walks alone
set_option linter.unusedVariables false
set_option linter.unusedSimpArgs false

def wharflaw20_TimerFull.f (_k : Nat) (_at : Int) (_key : ByteArray) : Option Bool := some true
theorem addBad_calls (B g : Nat) (l : List S58) (last : Int) (v : Value) (at_ : Int) (key : ByteArray) (W : World) (h : TimAt B W g l last v) (h0 : 0 ≤ last) (h1 : last ≤ 1000000000) (hB : B ≤ W.heap.size) (hc : 256 < key.size ∨ at_ < 0) :
    Calls Try.prog 10 #[.pointer (some ⟨g, 0, none⟩), .int .i64 at_, .string key] W fun e W' => e = .returned (.tuple #[.int .i64 0, .int .i64 2]) ∧ TimIs B g W l last W' := by
  have k := add_calls B g l last v at_ key W h h0 h1 hB
  rw [show alAdd l last at_ key = (0, 2, l, last) from if_pos hc] at k
  exact k
theorem addFull_calls (B g : Nat) (l : List S58) (last : Int) (v : Value) (at_ : Int) (key : ByteArray) (W : World) (h : TimAt B W g l last v) (h0 : 0 ≤ last) (h1 : last ≤ 1000000000) (hB : B ≤ W.heap.size) (hc : ¬ (256 < key.size ∨ at_ < 0)) (hl : 1000 ≤ l.length) :
    Calls Try.prog 10 #[.pointer (some ⟨g, 0, none⟩), .int .i64 at_, .string key] W fun e W' => e = .returned (.tuple #[.int .i64 0, .int .i64 5]) ∧ TimIs B g W l last W' := by
  have k := add_calls B g l last v at_ key W h h0 h1 hB
  rw [show alAdd l last at_ key = (0, 5, l, last) from (if_neg hc).trans (if_pos hl)] at k
  exact k
theorem addOk_calls (B g : Nat) (l : List S58) (last : Int) (v : Value) (at_ : Int) (key : ByteArray) (W : World) (h : TimAt B W g l last v) (h0 : 0 ≤ last) (h1 : last ≤ 1000000000) (hB : B ≤ W.heap.size) (hc : ¬ (256 < key.size ∨ at_ < 0)) (hl : l.length < 1000) :
    Calls Try.prog 10 #[.pointer (some ⟨g, 0, none⟩), .int .i64 at_, .string key] W fun e W' => e = .returned (.tuple #[.int .i64 (last + 1), .int .i64 0]) ∧ TimIs B g W (alPushed l ⟨at_, last + 1, key⟩) (last + 1) W' := by
  have k := add_calls B g l last v at_ key W h h0 h1 hB
  rw [show alAdd l last at_ key = (last + 1, 0, alPushed l ⟨at_, last + 1, key⟩, last + 1) from (if_neg hc).trans (if_neg (by omega))] at k
  exact k
theorem alKeep_none (key : ByteArray) (l : List S58) (h : AlAll (fun x => x.f2 = key) l) : alKeep key l = [] := by
  unfold alKeep
  rw [List.filter_eq_nil_iff]
  intro a ha
  have e : a.f2 = key := h a ha
  rw [e, beq_toListBytes]
  simp
theorem dropAll_calls (B g : Nat) (l : List S58) (last : Int) (v : Value) (key : ByteArray) (W : World) (h : TimAt B W g l last v) (hl : l.length ≤ 1000000) (ha : AlAll (fun x => x.f2 = key) l) :
    Calls Try.prog 13 #[.pointer (some ⟨g, 0, none⟩), .string key] W fun e W' => e = .returned (.int .i64 l.length) ∧ TimIs B g W (alDropped key l) last W' := by
  have k := drop_calls B g l last v key W h hl
  rw [alKeep_none key l ha] at k
  simpa using k
set_option maxRecDepth 100000 in
set_option maxHeartbeats 4000000 in
theorem wharflaw20_TimerFull.calls (k : Nat) (at_ : Int) (key : ByteArray) (r : Bool) (w : World) (h : wharflaw20_TimerFull.f k at_ key = some r) :
    Calls Try.prog 5 #[.int .i64 at_, .string key] w fun e w' => e = .returned (.bool r) ∧ Below w.heap.size w w' := by
  obtain rfl := Option.some.inj h
  clear h
  by_cases c1 : 300 < key.size
  · go_enter Try.func5, Try.ntmps5
    go_wp2_with (go_at_call 8; refine (wharflaw20_live.calls true _ rfl).mono ?_; rintro e w9 ⟨rfl, hb9⟩)
    go_ret
    exact ⟨rfl, hb9⟩
  go_enter Try.func5, Try.ntmps5
  go_upto_region 9 with (first
    | (go_at_call 10; (with_reducible refine (addNil_calls _ _ _).mono ?_); rintro e w1 ⟨rfl, rfl⟩)
    | (go_at_call 18; (with_reducible refine (nextNil_calls _).mono ?_); rintro e w1 ⟨rfl, rfl⟩)
    | (go_at_call 9; refine (new_calls w.heap.size _ (Nat.le_refl _)).mono ?_; rintro e w1 ⟨rfl, hT, hb⟩; have HT := Aside0.mk hT; have HB := Aside0.mk hb; clear hT hb)
    | (go_at_call 12; refine (num_calls _ _).mono ?_; rintro e w3 ⟨rfl, rfl⟩)
    | (go_at_call 20; (with_reducible refine (lenNil_calls _).mono ?_); rintro e w1 ⟨rfl, rfl⟩)
    | (go_at_call 16; (with_reducible refine (dueNil_calls _ _).mono ?_); rintro e w1 ⟨rfl, rfl⟩)
    | (go_at_call 13; (with_reducible refine (dropNil_calls _ _).mono ?_); rintro e w6 ⟨rfl, hb6⟩; have HT2 := Aside0.mk (HT.out.below hb6); have HB2 := Aside0.mk (below_step HB.out hb6); clear HT HB hb6; have HT := HT2; have HB := HB2; clear HT2 HB2)
    | (go_at_call 21; (with_reducible refine (hasNil_calls _ _).mono ?_); rintro e w6 ⟨rfl, hb6⟩; have HT2 := Aside0.mk (HT.out.below hb6); have HB2 := Aside0.mk (below_step HB.out hb6); clear HT HB hb6; have HT := HT2; have HB := HB2; clear HT2 HB2))
  have hN := Aside0.mk (Nat.le_refl w.heap.size)
  by_cases c2 : 256 < key.size ∨ at_ < 0
  · by_cases c3 : at_ < 0
    · have d2 : decide (at_ < 0) = true := decide_eq_true c3
      go_wp2_with (first | (go_at_call 10; refine (addBad_calls _ _ _ _ _ _ _ _ HT.out (Int.le_refl _) (by omega) HB.out.size c2).mono ?_; rintro e w2 ⟨rfl, v2, hT, hK⟩; have HB2 := Aside0.mk (hK.below HB.out HB.out.size); clear HT HB hT hK; have HB := HB2; clear HB2) | (go_at_call 12; refine (num_calls _ _).mono ?_; rintro e w3 ⟨rfl, rfl⟩) | (go_at_call 8; refine (wharflaw20_live.calls true _ rfl).mono ?_; rintro e w9 ⟨rfl, hb9⟩))
      go_ret
      exact ⟨rfl, below_step HB.out hb9⟩
    · have d2 : decide (at_ < 0) = false := decide_eq_false c3
      have c4 : 256 < key.size := c2.resolve_right c3
      go_wp2_with (first | (go_at_call 10; refine (addBad_calls _ _ _ _ _ _ _ _ HT.out (Int.le_refl _) (by omega) HB.out.size c2).mono ?_; rintro e w2 ⟨rfl, v2, hT, hK⟩; have HB2 := Aside0.mk (hK.below HB.out HB.out.size); clear HT HB hT hK; have HB := HB2; clear HB2) | (go_at_call 12; refine (num_calls _ _).mono ?_; rintro e w3 ⟨rfl, rfl⟩) | (go_at_call 8; refine (wharflaw20_live.calls true _ rfl).mono ?_; rintro e w9 ⟨rfl, hb9⟩))
      go_ret
      exact ⟨rfl, below_step HB.out hb9⟩
  · have c3 : ¬ at_ < 0 := fun h => c2 (.inr h)
    have c4 : ¬ 256 < key.size := fun h => c2 (.inl h)
    have d2 : decide (at_ < 0) = false := decide_eq_false c3
    have HC := Aside0.mk c2
    clear c2
    go_wp2_with fail
    go_loopg [13] 1001 (fun k i wr => ∃ (j : Nat) (l : List S58) (v : Value), 1000 - j < k ∧ j ≤ 1000 ∧ i = .int .i64 j ∧ Aside0 (l.length = j ∧ AlAll (fun x => x.f2 = key) l ∧ TimAt w.heap.size wr w.heap.size l j v ∧ Below w.heap.size w wr))
    case atStart => exact ⟨0, [], _, by omega, by omega, rfl, ⟨rfl, fun x hx => by simp at hx, HT.out, HB.out⟩⟩
    case round =>
      obtain ⟨j, l, v, hk, hj, rfl, HH⟩ := hrel
      clear HT HB
      by_cases hlt : j < 1000
      · have kA := addOk_calls _ _ _ _ _ at_ key _ HH.out.2.2.1 (by omega) (by omega) HH.out.2.2.2.size HC.out (by have := HH.out.1; omega)
        go_wp2_with (first | (go_at_call 10; refine kA.mono ?_; rintro e w2 ⟨rfl, v2, hT, hK⟩; have HB := Aside0.mk (hK.below HH.out.2.2.2 HH.out.2.2.2.size); have HT := Aside0.mk hT; clear hT hK kA) | (go_at_call 12; refine (num_calls _ _).mono ?_; rintro e w3 ⟨rfl, rfl⟩))
        go_roundg (1000 - j)
        case measure => omega
        case rel => exact ⟨j + 1, _, v2, by omega, by omega, rfl, ⟨by rw [alPushed_length, HH.out.1], AlAll.perm (fun x hx => by rcases List.mem_append.mp hx with h | h; exact HH.out.2.1 x h; rw [List.mem_singleton.mp h]) (alPushed_perm _ _), HT.out, HB.out⟩⟩
      · obtain rfl : j = 1000 := by omega
        have kA := addFull_calls _ _ _ _ _ at_ key _ HH.out.2.2.1 (by omega) (by omega) HH.out.2.2.2.size HC.out (by have := HH.out.1; omega)
        go_wp2_with (first | (go_at_call 10; refine kA.mono ?_; rintro e w2 ⟨rfl, v2, hT, hK⟩; have HB := Aside0.mk (hK.below HH.out.2.2.2 HH.out.2.2.2.size); have kD := dropAll_calls _ _ _ _ _ key _ hT (by have := HH.out.1; omega) HH.out.2.1; rw [HH.out.1] at kD; clear hT hK kA) | (go_at_call 12; refine (num_calls _ _).mono ?_; rintro e w3 ⟨rfl, rfl⟩) | (go_at_call 13; refine kD.mono ?_; rintro e w4 ⟨rfl, v4, hT, hK⟩; have HB4 := Aside0.mk (hK.below HB.out HB.out.size); clear hT hK kD) | (go_at_call 8; refine (wharflaw20_live.calls true _ rfl).mono ?_; rintro e w9 ⟨rfl, hb9⟩))
        go_ret
        exact ⟨rfl, below_step HB4.out hb9⟩
theorem wharflaw20_TimerFull.callsT (k : Nat) (at_ : Int) (key : ByteArray) (r : Bool) (w : World) (_ : Aside0 (r = true)) (h : wharflaw20_TimerFull.f k at_ key = some r) :
    Calls Try.prog 5 #[.int .i64 at_, .string key] w fun e w' => e = .returned (.bool r) ∧ Below w.heap.size w w' := wharflaw20_TimerFull.calls k at_ key r w h

end Go.Proofs.Ytlcnhmigbdaajaa.H
