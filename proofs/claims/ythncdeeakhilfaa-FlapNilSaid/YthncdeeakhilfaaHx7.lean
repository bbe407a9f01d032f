-- written by hp.py for this claim, out of the kit's printer and texts of my own
import Derived.Test.YthncdeeakhilfaaHx0
import Derived.Test.YthncdeeakhilfaaHx10
import Derived.Test.YthncdeeakhilfaaHx15
import Derived.Test.YthncdeeakhilfaaHx18
import Derived.Test.YthncdeeakhilfaaHx20003
import Derived.Test.YthncdeeakhilfaaHx20003
import Derived.Test.YthncdeeakhilfaaHx18
import Derived.Test.YthncdeeakhilfaaHx15
import Derived.Test.YthncdeeakhilfaaHx10
import Derived.Deep.QuietTactic
import Derived.BigQuiet
import Derived.WalkKit
namespace Go.Proofs.Ythncdeeakhilfaa.H
open Go.RowKit Go.Proofs.YthncdeeakhilfaaW.PrintWords Go.Proofs.YthncdeeakhilfaaW.PrintLast Go.Proofs.YthncdeeakhilfaaW.PrintMore
attribute [local go_sem] max2_int min2_int max_two min_two max_three min_three max_four min_four   -- for this text's walks alone
set_option linter.unusedVariables false
set_option linter.unusedSimpArgs false

/-- what the law answers where it is true (else none) -/
def wharflaw12_FlapNil.f (k : Nat) (b : ByteArray) (n : Int) : Option Bool :=
  if (b.size : Int) > 30000 then some true else if n < 0 then some true else if 9000 < n then some true
  else (flap_Put.f k 2 0 (strOfNums (List.replicate n.toNat 0))).bind fun p => if p.2 = (if 8192 < n then 1 else 0) then some true else none
set_option maxRecDepth 100000 in
set_option maxHeartbeats 4000000 in
theorem wharflaw12_FlapNil.calls (k : Nat) (b : ByteArray) (n : Int) (r : Bool) (w : World) (h : wharflaw12_FlapNil.f k b n = some r) :
    Calls Try.prog 7 #[.string b, .int .i64 n] w fun e w' => e = .returned (.bool r) ∧ Below w.heap.size w w' := by
  unfold wharflaw12_FlapNil.f at h
  have kl := fun W => wharflaw12_live.calls true W rfl
  have kn := fun a W => wharflaw12_num.calls a a W rfl
  by_cases c1 : (b.size : Int) > 30000
  · rw [if_pos c1] at h
    obtain rfl := Option.some.inj h
    have d1 : decide ((30000 : Int) < (b.size : Int)) = true := decide_eq_true c1
    have d1n : decide (30000 < b.size) = true := decide_eq_true (by omega)
    clear h c1
    go_enter Try.func7, Try.ntmps7
    go_wp2_with (go_at_call 10; refine (kl _).mono ?_; rintro e w9 ⟨rfl, hb9⟩)
    go_ret
    exact ⟨rfl, hb9⟩
  · rw [if_neg c1] at h
    have d1 : decide ((30000 : Int) < (b.size : Int)) = false := decide_eq_false c1
    have d1n : decide (30000 < b.size) = false := decide_eq_false (by omega)
    by_cases c2 : n < 0
    · rw [if_pos c2] at h
      obtain rfl := Option.some.inj h
      have d2 : decide (n < 0) = true := decide_eq_true c2
      clear h c1 c2
      go_enter Try.func7, Try.ntmps7
      go_wp2_with (go_at_call 10; refine (kl _).mono ?_; rintro e w9 ⟨rfl, hb9⟩)
      go_ret
      exact ⟨rfl, hb9⟩
    · rw [if_neg c2] at h
      obtain ⟨m, rfl⟩ : ∃ m : Nat, n = (m : Int) := ⟨n.toNat, by omega⟩
      have d2 : decide ((m : Int) < 0) = false := decide_eq_false c2
      by_cases c3 : 9000 < (m : Int)
      · rw [if_pos c3] at h
        obtain rfl := Option.some.inj h
        have d3 : decide (9000 < (m : Int)) = true := decide_eq_true c3
        have d3n : decide (9000 < m) = true := decide_eq_true (by omega)
        clear h c1 c2 c3
        go_enter Try.func7, Try.ntmps7
        go_wp2_with (go_at_call 10; refine (kl _).mono ?_; rintro e w9 ⟨rfl, hb9⟩)
        go_ret
        exact ⟨rfl, hb9⟩
      · rw [if_neg c3] at h
        have d3 : decide (9000 < (m : Int)) = false := decide_eq_false c3
        have d3n : decide (9000 < m) = false := decide_eq_false (by omega)
        obtain ⟨⟨p1, p2⟩, hp, h⟩ := Option.bind_eq_some_iff.mp h
        dsimp only at h
        rw [Int.toNat_natCast] at hp
        have km := print_make (P := Try.prog) 47 5 .u8 1 Try.underlying47 info5 (by decide) m (by omega)
        have kc := fun (W : World) => own_string (P := Try.prog) (src := 47) (dst := 9) Try.underlying47 Try.underlying5 Try.underlying9 (own_made W W.heap.size 5 .u8 m (Nat.le_refl _) (by omega))
        have kp := fun W => flap_Put.calls k 2 0 (strOfNums (List.replicate m 0)) p1 p2 W hp
        generalize strOfNums (List.replicate m 0) = z at *
        generalize madeCells #[Value.int .u8 0] m = mc at *
        clear hp c1 c2 c3
        by_cases c4 : 8192 < (m : Int)
        · rw [if_pos c4] at h
          have d4 : decide (8192 < (m : Int)) = true := decide_eq_true c4
          have d4n : decide (8192 < m) = true := decide_eq_true (by omega)
          by_cases c5 : p2 = 1
          · rw [if_pos c5] at h
            obtain rfl := Option.some.inj h
            subst c5
            clear h c4
            go_enter Try.func7, Try.ntmps7
            go_wp2_with (first | (go_at_call 18; refine (kp _).mono ?_; rintro e w5 ⟨rfl, hb5⟩) | (go_at_call 12; refine (flapFeed_nil _ _).mono ?_; rintro e w8 ⟨rfl, rfl⟩) | (go_at_call 16; refine (flapErr_nil _).mono ?_; rintro e w8 ⟨rfl, rfl⟩) | (go_at_call 17; refine (flapLeft_nil _).mono ?_; rintro e w8 ⟨rfl, rfl⟩) | (go_at_call 15; refine (kn _ _).mono ?_; rintro e w8 ⟨rfl, ⟨nd, rfl⟩⟩) | (go_at_call 10; refine (kl _).mono ?_; rintro e w9 ⟨rfl, hb9⟩))
            go_ret
            exact ⟨rfl, below_step (by repeat (first | exact below_step ((Below.refl _ _).alloc (Nat.le_refl _) _) hb5 | refine pw_below_drewN ?_ _)) hb9⟩
          · rw [if_neg c5] at h
            cases h
        · rw [if_neg c4] at h
          have d4 : decide (8192 < (m : Int)) = false := decide_eq_false c4
          have d4n : decide (8192 < m) = false := decide_eq_false (by omega)
          by_cases c5 : p2 = 0
          · rw [if_pos c5] at h
            obtain rfl := Option.some.inj h
            subst c5
            clear h c4
            go_enter Try.func7, Try.ntmps7
            go_wp2_with (first | (go_at_call 18; refine (kp _).mono ?_; rintro e w5 ⟨rfl, hb5⟩) | (go_at_call 12; refine (flapFeed_nil _ _).mono ?_; rintro e w8 ⟨rfl, rfl⟩) | (go_at_call 16; refine (flapErr_nil _).mono ?_; rintro e w8 ⟨rfl, rfl⟩) | (go_at_call 17; refine (flapLeft_nil _).mono ?_; rintro e w8 ⟨rfl, rfl⟩) | (go_at_call 15; refine (kn _ _).mono ?_; rintro e w8 ⟨rfl, ⟨nd, rfl⟩⟩) | (go_at_call 10; refine (kl _).mono ?_; rintro e w9 ⟨rfl, hb9⟩))
            go_ret
            exact ⟨rfl, below_step (by repeat (first | exact below_step ((Below.refl _ _).alloc (Nat.le_refl _) _) hb5 | refine pw_below_drewN ?_ _)) hb9⟩
          · rw [if_neg c5] at h
            cases h
theorem wharflaw12_FlapNil.callsT (k : Nat) (b : ByteArray) (n : Int) (r : Bool) (w : World) (_ : Aside0 (r = true)) (h : wharflaw12_FlapNil.f k b n = some r) :
    Calls Try.prog 7 #[.string b, .int .i64 n] w fun e w' => e = .returned (.bool r) ∧ Below w.heap.size w w' := wharflaw12_FlapNil.calls k b n r w  h

end Go.Proofs.Ythncdeeakhilfaa.H
