-- written by hp.py for this claim, out of the kit's printer and texts of my own
import Derived.Test.YtaaoaikfkgbfhaaHx0
import Derived.Test.YtaaoaikfkgbfhaaHx17
import Derived.Test.YtaaoaikfkgbfhaaHx30
import Derived.Test.YtaaoaikfkgbfhaaHx31
import Derived.Test.YtaaoaikfkgbfhaaHx33
import Derived.Test.YtaaoaikfkgbfhaaShelf
import Derived.WalkKit
import Derived.BigCall
import Derived.Lib.BufferKept
import Derived.Test.YtaaoaikfkgbfhaaHx17
import Derived.Test.YtaaoaikfkgbfhaaHx33
import Derived.Test.YtaaoaikfkgbfhaaHx30
import Derived.Test.YtaaoaikfkgbfhaaHx31
namespace Go.Proofs.Ytaaoaikfkgbfhaa.H
open Go.RowKit Go.Proofs.YtaaoaikfkgbfhaaW.PrintWords Go.Proofs.YtaaoaikfkgbfhaaW.PrintLast Go.Proofs.YtaaoaikfkgbfhaaW.PrintMore
attribute [local go_sem] max2_int min2_int max_two min_two max_three min_three max_four min_four   -- for this text's walks alone
set_option linter.unusedVariables false
set_option linter.unusedSimpArgs false

def hdB (s : ByteArray) : UInt8 := if h : 0 < s.size then s[0]'h else 0
theorem hdB_at (s : ByteArray) (h : 0 < s.size) : s[0]'h = hdB s := by unfold hdB; rw [dif_pos h]
def fromHtmlTail (go : ByteArray → List UInt8 → Option ByteArray) (s : ByteArray) (acc : List UInt8) : Option ByteArray :=
  (shade_entity.f s).bind fun e =>
    if e.2 > 0 then (if e.2 ≤ (s.size : Int) ∧ 0 ≤ e.1 ∧ e.1 < 256 then go (s.extract e.2.toNat s.size) (acc ++ [e.1.toNat.toUInt8]) else none)
    else go (s.extract 1 s.size) (acc ++ [hdB s])
def fromHtmlGo : Nat → ByteArray → List UInt8 → Option ByteArray
  | 0, _, _ => none
  | k + 1, s, acc =>
    if s.toList = ([] : List UInt8) then some ⟨acc.toArray⟩
    else if 0 < s.size ∧ acc.length < 140737488355328 then
      (if ((hdB s).toNat : Int) = 60 then
        (strings_Cut.f (s.extract 1 s.size) ⟨#[62]⟩).bind fun b =>
          if b.2.2 = true then (glyph_Fold.f b.1).bind fun t =>
            if t.toList = ([98, 114] : List UInt8) then fromHtmlGo k b.2.1 (acc ++ [10])
            else if t.toList = ([98, 114, 47] : List UInt8) then fromHtmlGo k b.2.1 (acc ++ [10])
            else fromHtmlGo k b.2.1 acc
          else fromHtmlTail (fromHtmlGo k) s acc
      else fromHtmlTail (fromHtmlGo k) s acc)
    else none
def shade_FromHtml.f (s : ByteArray) : Option ByteArray := fromHtmlGo (s.size + 1) s []
theorem u8_back (c : Int) (h0 : 0 ≤ c) (h1 : c < 256) : ((c.toNat.toUInt8.toNat : Nat) : Int) = c := by
  have : c.toNat.toUInt8.toNat = c.toNat := by
    show (UInt8.ofNat c.toNat).toNat = c.toNat
    simp
    omega
  rw [this]; omega
set_option maxHeartbeats 4000000 in
set_option maxRecDepth 1000000 in
theorem shade_FromHtml.calls (s : ByteArray) (r : ByteArray) (w : World) (h : shade_FromHtml.f s = some r) :
    Calls Try.prog 19 #[.string s] w fun e w' => e = .returned (.string r) ∧ Below w.heap.size w w' := by
  obtain ⟨k, hk⟩ : ∃ k, k = s.size + 1 := ⟨_, rfl⟩
  have H0 : Aside0 (fromHtmlGo k s [] = some r) := ⟨by rw [hk]; exact h⟩
  clear h hk
  go_enter Try.func19, Try.ntmps19
  go_wp2
  go_loopg [0] k (fun kq v0 w' => ∃ (x : ByteArray) (acc : List UInt8), v0 = .string x ∧ Aside0 (fromHtmlGo kq x acc = some r) ∧ Aside0 (kq ≤ k) ∧ Aside0 (Lib.IsBuilderF 40 5 w.heap.size w.heap.size (Lib.byteCells acc) w') ∧ Aside0 (Below w.heap.size w w'))
  case atStart => exact ⟨s, [], rfl, H0, ⟨Nat.le_refl _⟩, ⟨Lib.IsBuilderF.of (Lib.fresh_isBuilder 40 5 w)⟩, ⟨(Below.refl _ w).alloc (Nat.le_refl _) _⟩⟩
  case round =>
    clear H0
    obtain ⟨x, acc, rfl, HA, HK, HI, HB⟩ := hrel
    cases gk with
    | zero => exact absurd HA.out (by simp [fromHtmlGo])
    | succ k1 =>
      have H := HA.out
      clear HA
      simp only [fromHtmlGo] at H
      have HS := Aside0.mk HB.out.size
      by_cases c0 : x.toList = ([] : List UInt8)
      · rw [if_pos c0] at H
        have c0b : (x.toList == ([] : List UInt8)) = true := beq_iff_eq.mpr c0
        have c0c : (x.toList != ([] : List UInt8)) = false := bne_eq_false_iff_eq.mpr c0
        clear c0
        obtain rfl := Option.some.inj H
        go_wp2_with (go_at_call 27; refine (Try.Builder_String_any_k w.heap.size w.heap.size acc _ HI.out HS.out).mono ?_)
        first | rintro e W1 rfl _ b1 _ | rintro e W1 ⟨rfl, _, b1, _⟩
        go_wp2
        go_ret
        exact ⟨rfl, HB.out.trans b1⟩
      · rw [if_neg c0] at H
        have c0b : (x.toList == ([] : List UInt8)) = false := beq_eq_false_iff_ne.mpr c0
        have c0c : (x.toList != ([] : List UInt8)) = true := bne_iff_ne.mpr c0
        clear c0
        by_cases cl : 0 < x.size ∧ acc.length < 140737488355328
        · rw [if_pos cl] at H
          obtain ⟨hpos, cl⟩ := cl
          have CL := Aside0.mk cl
          clear cl
          have hx := hdB_at x
          have q0 : (0 < (x.size : Int)) = True := eq_true (by omega)
          have q1 : (1 ≤ (x.size : Int)) = True := eq_true (by omega)
          have q2 := eq_true hpos
          have q3 : (1 ≤ x.size) = True := eq_true (by omega)
          clear hpos
          by_cases c6 : ((hdB x).toNat : Int) = 60
          · rw [if_pos c6] at H
            have d6 : (((hdB x).toNat : Int) == 60) = true := beq_iff_eq.mpr c6
            clear c6
            obtain ⟨⟨t1, t2, t3⟩, HC, H⟩ := Option.bind_eq_some_iff.mp H
            dsimp only at H
            go_wp2_with (go_at_call 30; refine (strings_Cut.calls _ _ t1 t2 t3 _ HC).mono ?_)
            rintro e W2' ⟨rfl, ⟨nd, rfl⟩⟩
            have HI2 := Aside0.mk (builderBelow HI.out (pw_below_drewN (Below.refl _ _) nd))
            have HB2 := Aside0.mk (below_step HB.out (pw_below_drewN (Below.refl _ _) nd))
            clear HI HB HS HC
            have HI := HI2
            have HB := HB2
            have HS := Aside0.mk HB.out.size
            clear HI2 HB2
            by_cases c7 : t3 = true
            · rw [if_pos c7] at H
              subst c7
              obtain ⟨t, HF, H⟩ := Option.bind_eq_some_iff.mp H
              go_wp2_with (go_at_call 31; refine (glyph_Fold.calls _ t _ HF).mono ?_)
              first | rintro e W3 rfl bW | rintro e W3 ⟨rfl, bW⟩
              have HI2 := Aside0.mk (builderBelow HI.out bW)
              have HB2 := Aside0.mk (below_step HB.out bW)
              clear HI HB HS HF bW
              have HI := HI2
              have HB := HB2
              have HS := Aside0.mk HB.out.size
              clear HI2 HB2
              by_cases c8 : t.toList = ([98, 114] : List UInt8)
              · rw [if_pos c8] at H
                have d8 : (t.toList == ([98, 114] : List UInt8)) = true := beq_iff_eq.mpr c8
                clear c8
                have H' := Aside0.mk H
                clear H
                go_wp2_with (go_at_call 32; refine (Try.Builder_WriteByte_k w.heap.size w.heap.size _ 10 _ HI.out (by have := CL.out; rw [Lib.byteCells_length]; omega) HS.out).mono ?_)
                first | rintro e W6 rfl h1 b1 _ | rintro e W6 ⟨rfl, h1, b1, _⟩
                go_wp2
                go_roundg k1
                case measure => have := HK.out; omega
                case rel => exact ⟨_, acc ++ [10], rfl, H', ⟨by have := HK.out; omega⟩, ⟨Or.inr (by rw [Lib.byteCells_append]; exact h1)⟩, ⟨HB.out.trans b1⟩⟩
              · rw [if_neg c8] at H
                have d8 : (t.toList == ([98, 114] : List UInt8)) = false := beq_eq_false_iff_ne.mpr c8
                clear c8
                by_cases c9 : t.toList = ([98, 114, 47] : List UInt8)
                · rw [if_pos c9] at H
                  have d9 : (t.toList == ([98, 114, 47] : List UInt8)) = true := beq_iff_eq.mpr c9
                  clear c9
                  have H' := Aside0.mk H
                  clear H
                  go_wp2_with (go_at_call 32; refine (Try.Builder_WriteByte_k w.heap.size w.heap.size _ 10 _ HI.out (by have := CL.out; rw [Lib.byteCells_length]; omega) HS.out).mono ?_)
                  first | rintro e W6 rfl h1 b1 _ | rintro e W6 ⟨rfl, h1, b1, _⟩
                  go_wp2
                  go_roundg k1
                  case measure => have := HK.out; omega
                  case rel => exact ⟨_, acc ++ [10], rfl, H', ⟨by have := HK.out; omega⟩, ⟨Or.inr (by rw [Lib.byteCells_append]; exact h1)⟩, ⟨HB.out.trans b1⟩⟩
                · rw [if_neg c9] at H
                  have d9 : (t.toList == ([98, 114, 47] : List UInt8)) = false := beq_eq_false_iff_ne.mpr c9
                  clear c9
                  have H' := Aside0.mk H
                  clear H
                  go_wp2
                  go_roundg k1
                  case measure => have := HK.out; omega
                  case rel => exact ⟨_, acc, rfl, H', ⟨by have := HK.out; omega⟩, HI, HB⟩
            · rw [if_neg c7] at H
              obtain rfl : t3 = false := by simpa using c7
              clear c7
              unfold fromHtmlTail at H
              obtain ⟨⟨e1, e2⟩, HE, H⟩ := Option.bind_eq_some_iff.mp H
              dsimp only at H
              go_wp2_with (go_at_call 33; refine (shade_entity.calls _ e1 e2 _ HE).mono ?_)
              first | rintro e W5 rfl bW | rintro e W5 ⟨rfl, bW⟩
              have HI5 := Aside0.mk (builderBelow HI.out bW)
              have HB5 := Aside0.mk (below_step HB.out bW)
              have HS5 := Aside0.mk (HB5.out.size)
              clear bW HI HB HS HE
              by_cases ce : e2 > 0
              · rw [if_pos ce] at H
                have d5 : decide (0 < e2) = true := decide_eq_true ce
                by_cases c2 : e2 ≤ (x.size : Int) ∧ 0 ≤ e1 ∧ e1 < 256
                · rw [if_pos c2] at H
                  obtain ⟨c2, c3, c4⟩ := c2
                  have H' := Aside0.mk H
                  have q5 := eq_true c2
                  have q6 : (0 ≤ e2) = True := eq_true (by omega)
                  have HU := Aside0.mk (u8_back e1 c3 c4)
                  clear H c2 c3 c4 ce
                  go_wp2_with (go_at_call 32; refine (Try.Builder_WriteByte_k w.heap.size w.heap.size _ e1 _ HI5.out (by have := CL.out; rw [Lib.byteCells_length]; omega) HS5.out).mono ?_)
                  first | rintro e W6 rfl h1 b1 _ | rintro e W6 ⟨rfl, h1, b1, _⟩
                  go_wp2
                  go_roundg k1
                  case measure => have := HK.out; omega
                  case rel => exact ⟨_, acc ++ [e1.toNat.toUInt8], rfl, H', ⟨by have := HK.out; omega⟩, ⟨Or.inr (by rw [Lib.byteCells_append]; show Lib.BuilderAtF _ _ _ _ _ (Lib.byteCells acc ++ [Value.int .u8 ((e1.toNat.toUInt8.toNat : Nat) : Int)]) _; rw [HU.out]; exact h1)⟩, ⟨HB5.out.trans b1⟩⟩
                · rw [if_neg c2] at H
                  exact absurd H (by simp)
              · rw [if_neg ce] at H
                have d5 : decide (0 < e2) = false := decide_eq_false ce
                have H' := Aside0.mk H
                clear H ce
                go_wp2_with (go_at_call 32; refine (Try.Builder_WriteByte_k w.heap.size w.heap.size _ ((hdB x).toNat : Int) _ HI5.out (by have := CL.out; rw [Lib.byteCells_length]; omega) HS5.out).mono ?_)
                first | rintro e W6 rfl h1 b1 _ | rintro e W6 ⟨rfl, h1, b1, _⟩
                go_wp2
                go_roundg k1
                case measure => have := HK.out; omega
                case rel => exact ⟨_, acc ++ [hdB x], rfl, H', ⟨by have := HK.out; omega⟩, ⟨Or.inr (by rw [Lib.byteCells_append]; exact h1)⟩, ⟨HB5.out.trans b1⟩⟩
          · rw [if_neg c6] at H
            have d6 : (((hdB x).toNat : Int) == 60) = false := beq_eq_false_iff_ne.mpr c6
            clear c6
            unfold fromHtmlTail at H
            obtain ⟨⟨e1, e2⟩, HE, H⟩ := Option.bind_eq_some_iff.mp H
            dsimp only at H
            go_wp2_with (go_at_call 33; refine (shade_entity.calls _ e1 e2 _ HE).mono ?_)
            first | rintro e W5 rfl bW | rintro e W5 ⟨rfl, bW⟩
            have HI5 := Aside0.mk (builderBelow HI.out bW)
            have HB5 := Aside0.mk (below_step HB.out bW)
            have HS5 := Aside0.mk (HB5.out.size)
            clear bW HI HB HS HE
            by_cases ce : e2 > 0
            · rw [if_pos ce] at H
              have d5 : decide (0 < e2) = true := decide_eq_true ce
              by_cases c2 : e2 ≤ (x.size : Int) ∧ 0 ≤ e1 ∧ e1 < 256
              · rw [if_pos c2] at H
                obtain ⟨c2, c3, c4⟩ := c2
                have H' := Aside0.mk H
                have q5 := eq_true c2
                have q6 : (0 ≤ e2) = True := eq_true (by omega)
                have HU := Aside0.mk (u8_back e1 c3 c4)
                clear H c2 c3 c4 ce
                go_wp2_with (go_at_call 32; refine (Try.Builder_WriteByte_k w.heap.size w.heap.size _ e1 _ HI5.out (by have := CL.out; rw [Lib.byteCells_length]; omega) HS5.out).mono ?_)
                first | rintro e W6 rfl h1 b1 _ | rintro e W6 ⟨rfl, h1, b1, _⟩
                go_wp2
                go_roundg k1
                case measure => have := HK.out; omega
                case rel => exact ⟨_, acc ++ [e1.toNat.toUInt8], rfl, H', ⟨by have := HK.out; omega⟩, ⟨Or.inr (by rw [Lib.byteCells_append]; show Lib.BuilderAtF _ _ _ _ _ (Lib.byteCells acc ++ [Value.int .u8 ((e1.toNat.toUInt8.toNat : Nat) : Int)]) _; rw [HU.out]; exact h1)⟩, ⟨HB5.out.trans b1⟩⟩
              · rw [if_neg c2] at H
                exact absurd H (by simp)
            · rw [if_neg ce] at H
              have d5 : decide (0 < e2) = false := decide_eq_false ce
              have H' := Aside0.mk H
              clear H ce
              go_wp2_with (go_at_call 32; refine (Try.Builder_WriteByte_k w.heap.size w.heap.size _ ((hdB x).toNat : Int) _ HI5.out (by have := CL.out; rw [Lib.byteCells_length]; omega) HS5.out).mono ?_)
              first | rintro e W6 rfl h1 b1 _ | rintro e W6 ⟨rfl, h1, b1, _⟩
              go_wp2
              go_roundg k1
              case measure => have := HK.out; omega
              case rel => exact ⟨_, acc ++ [hdB x], rfl, H', ⟨by have := HK.out; omega⟩, ⟨Or.inr (by rw [Lib.byteCells_append]; exact h1)⟩, ⟨HB5.out.trans b1⟩⟩
        · rw [if_neg cl] at H
          exact absurd H (by simp)

end Go.Proofs.Ytaaoaikfkgbfhaa.H
