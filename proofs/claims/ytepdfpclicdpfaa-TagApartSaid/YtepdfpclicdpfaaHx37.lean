-- written by hp.py for this claim, out of the kit's printer and texts of my own
import Derived.Test.YtepdfpclicdpfaaHx0
import Derived.Test.YtepdfpclicdpfaaHx39
import Derived.Handy
import Derived.Laws.RangeAny
import Derived.Lib.TrimU
namespace Go.Proofs.Ytepdfpclicdpfaa.H
open Go.RowKit Go.Proofs.YtepdfpclicdpfaaW.PrintWords Go.Proofs.YtepdfpclicdpfaaW.PrintLast Go.Proofs.YtepdfpclicdpfaaW.PrintMore
attribute [local go_sem] max2_int min2_int max_two min_two max_three min_three max_four min_four   -- for this text's walks alone
set_option linter.unusedVariables false
set_option linter.unusedSimpArgs false

def glyphWidth (c : Int) : Int := if c < 128 then 1 else if c < 2048 then 2 else if c < 65536 then 3 else 4
def glyph_First.f (s : ByteArray) : Option (Int × Int × Int) :=
  if s.size = 0 then some (0, 0, 10)
  else if (Utf8.decode s 0).1 = 65533 ∧ (s.size < 3 ∨ ¬ (s.extract 0 3).toList = [239, 191, 189]) then some (0, 0, 10)
  else some (((Utf8.decode s 0).1 : Int), glyphWidth ((Utf8.decode s 0).1 : Int), 0)
theorem glyph_width.eq (c : Int) : glyph_width.f c = some (glyphWidth c) := by
  unfold glyph_width.f glyphWidth
  repeat' split
  all_goals rfl
theorem glyph_First.calls (s : ByteArray) (r1 r2 r3 : Int) (w : World) (h : glyph_First.f s = some (r1, r2, r3)) :
    Calls Try.prog 37 #[.string s] w fun e w' => e = .returned (.tuple #[.int .i64 r1, .int .i64 r2, .int .i64 r3]) ∧ Below w.heap.size w w' := by
  unfold glyph_First.f at h
  by_cases h0 : s.size = 0
  · rw [if_pos h0] at h
    simp only [Option.some.injEq, Prod.mk.injEq] at h
    obtain ⟨rfl, rfl, rfl⟩ := h
    have hn := fun ty => run_next_end (P := Try.prog) w s 0 ty (by omega)
    clear h0
    go_enter Try.func37, Try.ntmps37
    go_wp2
    go_rounds 1
    go_ret3
    exact ⟨rfl, below_alloc (Below.refl _ _) _⟩
  · rw [if_neg h0] at h
    have hn := fun ty => run_next_any (P := Try.prog) w s 0 ty (by omega)
    have hc := Lib.rune_le s 0
    generalize Utf8.decode s 0 = d at h hn hc
    obtain ⟨c, n⟩ := d
    dsimp only at h hn hc
    have kw := fun W => glyph_width.calls (c : Int) (glyphWidth (c : Int)) W (glyph_width.eq _)
    by_cases h1 : c = 65533
    · have d1 : ((c : Int) == 65533) = true := by rw [h1]; rfl
      by_cases h2 : s.size < 3
      · rw [if_pos ⟨h1, Or.inl h2⟩] at h
        simp only [Option.some.injEq, Prod.mk.injEq] at h
        obtain ⟨rfl, rfl, rfl⟩ := h
        have d2 : decide ((s.size : Int) < 3) = true := decide_eq_true (by omega)
        have d2' : decide (s.size < 3) = true := decide_eq_true h2
        clear h0 h1 h2
        go_enter Try.func37, Try.ntmps37
        go_wp2
        refine wp_loop_rounds 1 ?_
        rw [rounds_succ]
        go_wp2_with (go_at_call 39; refine (kw _).mono ?_; rintro e w' ⟨rfl, ⟨m1, rfl⟩⟩)
        go_ret3
        exact ⟨rfl, pw_below_drewN (below_alloc (Below.refl _ _) _) _⟩
      · have d2 : decide ((s.size : Int) < 3) = false := decide_eq_false (by omega)
        have d2' : decide (s.size < 3) = false := decide_eq_false h2
        have g3 : ((3 : Int) ≤ (s.size : Int)) = True := eq_true (by omega)
        by_cases h3 : (s.extract 0 3).toList = [239, 191, 189]
        · rw [if_neg (by simp [h2, h3])] at h
          simp only [Option.some.injEq, Prod.mk.injEq] at h
          obtain ⟨rfl, rfl, rfl⟩ := h
          have d3 : ((s.extract 0 3).toList == [239, 191, 189]) = true := beq_iff_eq.mpr h3
          clear h0 h1 h2 h3
          go_enter Try.func37, Try.ntmps37
          go_wp2
          refine wp_loop_rounds 1 ?_
          rw [rounds_succ]
          go_wp2_with (go_at_call 39; refine (kw _).mono ?_; rintro e w' ⟨rfl, ⟨m1, rfl⟩⟩)
          go_ret3
          exact ⟨rfl, pw_below_drewN (below_alloc (Below.refl _ _) _) _⟩
        · rw [if_pos ⟨h1, Or.inr h3⟩] at h
          simp only [Option.some.injEq, Prod.mk.injEq] at h
          obtain ⟨rfl, rfl, rfl⟩ := h
          have d3 : ((s.extract 0 3).toList == [239, 191, 189]) = false := beq_eq_false_iff_ne.mpr h3
          clear h0 h1 h2 h3
          go_enter Try.func37, Try.ntmps37
          go_wp2
          refine wp_loop_rounds 1 ?_
          rw [rounds_succ]
          go_wp2_with (go_at_call 39; refine (kw _).mono ?_; rintro e w' ⟨rfl, ⟨m1, rfl⟩⟩)
          go_ret3
          exact ⟨rfl, pw_below_drewN (below_alloc (Below.refl _ _) _) _⟩
    · rw [if_neg (fun hh => h1 hh.1)] at h
      simp only [Option.some.injEq, Prod.mk.injEq] at h
      obtain ⟨rfl, rfl, rfl⟩ := h
      have d1 : ((c : Int) == 65533) = false := beq_eq_false_iff_ne.mpr (by omega)
      clear h0 h1
      go_enter Try.func37, Try.ntmps37
      go_wp2
      refine wp_loop_rounds 1 ?_
      rw [rounds_succ]
      go_wp2_with (go_at_call 39; refine (kw _).mono ?_; rintro e w' ⟨rfl, ⟨m1, rfl⟩⟩)
      go_ret3
      exact ⟨rfl, pw_below_drewN (below_alloc (Below.refl _ _) _) _⟩

end Go.Proofs.Ytepdfpclicdpfaa.H
