-- written by hp.py for this claim, out of the kit's printer and texts of my own
import Derived.Test.YtaplfbnjoifggaaHx0
import Derived.Laws.Runes
namespace Go.Proofs.Ytaplfbnjoifggaa.H
open Go.RowKit Go.Proofs.YtaplfbnjoifggaaW.PrintWords Go.Proofs.YtaplfbnjoifggaaW.PrintLast Go.Proofs.YtaplfbnjoifggaaW.PrintMore
attribute [local go_sem] max2_int min2_int max_two min_two max_three min_three max_four min_four   -- for this text's walks alone
set_option linter.unusedVariables false
set_option linter.unusedSimpArgs false

def glyph_Put.f (c : Int) : Option (ByteArray × Int) :=
  if c < 0 ∨ 1114111 < c ∨ (55296 ≤ c ∧ c ≤ 57343) then some (⟨#[]⟩, 10) else some (Utf8.encode c, 0)
theorem glyph_Put.calls (a0 : Int) (r1 : ByteArray) (r2 : Int) (w : World) (h : glyph_Put.f a0 = some (r1, r2)) :
    Calls Try.prog 15 #[.int .i64 a0] w fun e w' => e = .returned (.tuple #[.string r1, .int .i64 r2]) ∧ Drawn0 w w' := by
  unfold glyph_Put.f at h
  by_cases c0 : a0 < 0
  · rw [if_pos (Or.inl c0)] at h
    simp only [Option.some.injEq, Prod.mk.injEq] at h
    obtain ⟨rfl, rfl⟩ := h
    have d0 : decide (a0 < 0) = true := decide_eq_true c0
    clear c0
    go_enter Try.func15, Try.ntmps15
    go_wp2
    go_ret2
    exact ⟨rfl, Drawn0.refl _⟩
  · have d0 : decide (a0 < 0) = false := decide_eq_false c0
    by_cases c1 : 1114111 < a0
    · rw [if_pos (Or.inr (Or.inl c1))] at h
      simp only [Option.some.injEq, Prod.mk.injEq] at h
      obtain ⟨rfl, rfl⟩ := h
      have d1 : decide (1114111 < a0) = true := decide_eq_true c1
      clear c0 c1
      go_enter Try.func15, Try.ntmps15
      go_wp2
      go_ret2
      exact ⟨rfl, Drawn0.refl _⟩
    · have d1 : decide (1114111 < a0) = false := decide_eq_false c1
      by_cases c2 : 55296 ≤ a0
      · have d2 : decide (55296 ≤ a0) = true := decide_eq_true c2
        by_cases c3 : a0 ≤ 57343
        · rw [if_pos (Or.inr (Or.inr ⟨c2, c3⟩))] at h
          simp only [Option.some.injEq, Prod.mk.injEq] at h
          obtain ⟨rfl, rfl⟩ := h
          have d3 : decide (a0 ≤ 57343) = true := decide_eq_true c3
          clear c0 c1 c2 c3
          go_enter Try.func15, Try.ntmps15
          go_wp2
          go_ret2
          exact ⟨rfl, Drawn0.refl _⟩
        · rw [if_neg (by omega)] at h
          simp only [Option.some.injEq, Prod.mk.injEq] at h
          obtain ⟨rfl, rfl⟩ := h
          have d3 : decide (a0 ≤ 57343) = false := decide_eq_false c3
          have b0 : 0 ≤ a0 := by omega
          have b1 : a0 ≤ 1114111 := by omega
          clear c0 c1 c2 c3
          go_enter Try.func15, Try.ntmps15
          go_wp2
          go_ret2
          exact ⟨rfl, Drawn0.refl _⟩
      · rw [if_neg (by omega)] at h
        simp only [Option.some.injEq, Prod.mk.injEq] at h
        obtain ⟨rfl, rfl⟩ := h
        have d2 : decide (55296 ≤ a0) = false := decide_eq_false c2
        have b0 : 0 ≤ a0 := by omega
        have b1 : a0 ≤ 1114111 := by omega
        clear c0 c1 c2
        go_enter Try.func15, Try.ntmps15
        go_wp2
        go_ret2
        exact ⟨rfl, Drawn0.refl _⟩

end Go.Proofs.Ytaplfbnjoifggaa.H
