-- written by hp.py for this claim, out of the kit's printer and texts of my own
import Derived.Test.YthncdeeakhilfaaHx0
import Derived.Handy
namespace Go.Proofs.Ythncdeeakhilfaa.H
open Go.RowKit Go.Proofs.YthncdeeakhilfaaW.PrintWords Go.Proofs.YthncdeeakhilfaaW.PrintLast Go.Proofs.YthncdeeakhilfaaW.PrintMore
attribute [local go_sem] max2_int min2_int max_two min_two max_three min_three max_four min_four   -- for this text's walks alone
set_option linter.unusedVariables false
set_option linter.unusedSimpArgs false

def tlvBytes (n w : Int) : List Int := ([n / 16777216 % 256, n / 65536 % 256, n / 256 % 256, n % 256] : List Int).drop (4 - w).toNat
def tlvFits (n w : Int) : Bool := decide (0 ≤ n) && ((w == 1 && n / 256 == 0) || (w == 2 && n / 65536 == 0) || (w == 4 && n / 4294967296 == 0))
def tlv_Int.f (n w : Int) : Option (ByteArray × Int) := if tlvFits n w = true then some (strOfNums (tlvBytes n w), 0) else some (⟨#[]⟩, 2)
def tlvObj (n : Int) : Obj := .cells #[.int .u8 (n / 16777216 % 256), .int .u8 (n / 65536 % 256), .int .u8 (n / 256 % 256), .int .u8 (n % 256)] 61
theorem tlvConv (a0 : Int) (w : World) (k : Nat) (hk : k ≤ 4) : (convert 47 9 (.slice (some ⟨w.heap.size, k, none⟩) (4 - k) (4 - k))).run Try.prog (w.alloc (tlvObj a0)) = .ok (.string (strOfNums (tlvBytes a0 (4 - k)))) (w.alloc (tlvObj a0)) := by
  refine run_convert_bytes_arg _ 47 5 Try.underlying47 Try.underlying5 w.heap.size k _ _ _ ?_ ?_ 9 Try.underlying9
  · simp [tlvBytes]; omega
  · intro i hi
    have hk' : k = 0 ∨ k = 1 ∨ k = 2 ∨ k = 3 ∨ k = 4 := by omega
    have hi' : i = 0 ∨ i = 1 ∨ i = 2 ∨ i = 3 := by omega
    rcases hk' with rfl | rfl | rfl | rfl | rfl <;> rcases hi' with rfl | rfl | rfl | rfl <;> first | (exfalso; omega) | (simp [World.cell?_alloc_new, tlvBytes, tlvObj])
set_option maxHeartbeats 400000 in
theorem tlv_Int.ok1 (a0 : Int) (w : World) (h0 : 0 ≤ a0) (h1 : a0 / 256 = 0) :
    Calls Try.prog 24 #[.int .i64 a0, .int .i64 1] w fun e w' => e = .returned (.tuple #[.string (strOfNums (tlvBytes a0 1)), .int .i64 0]) ∧ w' = w.alloc (tlvObj a0) := by
  have k1 := tlvConv a0 w 3 (by omega)
  unfold tlvObj at k1
  have d0 : decide (a0 < 0) = false := by simp; omega
  have d1 : (a0 / 256 != 0) = false := by simp [h1]
  clear h1
  go_enter Try.func24, Try.ntmps24
  go_wp2
  go_rounds 5
  go_ret2
  exact ⟨rfl, rfl⟩
set_option maxHeartbeats 400000 in
theorem tlv_Int.no1 (a0 : Int) (w : World) (h : ¬ (0 ≤ a0 ∧ a0 / 256 = 0)) :
    Calls Try.prog 24 #[.int .i64 a0, .int .i64 1] w fun e w' => e = .returned (.tuple #[.string ⟨#[]⟩, .int .i64 2]) ∧ w' = w := by
  by_cases n0 : a0 < 0
  · clear h
    have d0 : decide (a0 < 0) = true := decide_eq_true n0
    clear n0
    go_enter Try.func24, Try.ntmps24
    go_wp2
    go_ret2
    exact ⟨rfl, rfl⟩
  · have d0 : decide (a0 < 0) = false := decide_eq_false n0
    have n1 : 0 ≤ a0 := by omega
    have d1 : (a0 / 256 != 0) = true := by simp; exact fun h' => h ⟨n1, h'⟩
    clear h n0
    go_enter Try.func24, Try.ntmps24
    go_wp2
    go_ret2
    exact ⟨rfl, rfl⟩
set_option maxHeartbeats 400000 in
theorem tlv_Int.ok2 (a0 : Int) (w : World) (h0 : 0 ≤ a0) (h1 : a0 / 65536 = 0) :
    Calls Try.prog 24 #[.int .i64 a0, .int .i64 2] w fun e w' => e = .returned (.tuple #[.string (strOfNums (tlvBytes a0 2)), .int .i64 0]) ∧ w' = w.alloc (tlvObj a0) := by
  have k1 := tlvConv a0 w 2 (by omega)
  unfold tlvObj at k1
  have d0 : decide (a0 < 0) = false := by simp; omega
  have d1 : (a0 / 65536 != 0) = false := by simp [h1]
  clear h1
  go_enter Try.func24, Try.ntmps24
  go_wp2
  go_rounds 5
  go_ret2
  exact ⟨rfl, rfl⟩
set_option maxHeartbeats 400000 in
theorem tlv_Int.no2 (a0 : Int) (w : World) (h : ¬ (0 ≤ a0 ∧ a0 / 65536 = 0)) :
    Calls Try.prog 24 #[.int .i64 a0, .int .i64 2] w fun e w' => e = .returned (.tuple #[.string ⟨#[]⟩, .int .i64 2]) ∧ w' = w := by
  by_cases n0 : a0 < 0
  · clear h
    have d0 : decide (a0 < 0) = true := decide_eq_true n0
    clear n0
    go_enter Try.func24, Try.ntmps24
    go_wp2
    go_ret2
    exact ⟨rfl, rfl⟩
  · have d0 : decide (a0 < 0) = false := decide_eq_false n0
    have n1 : 0 ≤ a0 := by omega
    have d1 : (a0 / 65536 != 0) = true := by simp; exact fun h' => h ⟨n1, h'⟩
    clear h n0
    go_enter Try.func24, Try.ntmps24
    go_wp2
    go_ret2
    exact ⟨rfl, rfl⟩
set_option maxHeartbeats 400000 in
theorem tlv_Int.ok4 (a0 : Int) (w : World) (h0 : 0 ≤ a0) (h1 : a0 / 4294967296 = 0) :
    Calls Try.prog 24 #[.int .i64 a0, .int .i64 4] w fun e w' => e = .returned (.tuple #[.string (strOfNums (tlvBytes a0 4)), .int .i64 0]) ∧ w' = w.alloc (tlvObj a0) := by
  have k1 := tlvConv a0 w 0 (by omega)
  unfold tlvObj at k1
  have d0 : decide (a0 < 0) = false := by simp; omega
  have d1 : (a0 / 4294967296 != 0) = false := by simp [h1]
  clear h1
  go_enter Try.func24, Try.ntmps24
  go_wp2
  go_rounds 5
  go_ret2
  exact ⟨rfl, rfl⟩
set_option maxHeartbeats 400000 in
theorem tlv_Int.no4 (a0 : Int) (w : World) (h : ¬ (0 ≤ a0 ∧ a0 / 4294967296 = 0)) :
    Calls Try.prog 24 #[.int .i64 a0, .int .i64 4] w fun e w' => e = .returned (.tuple #[.string ⟨#[]⟩, .int .i64 2]) ∧ w' = w := by
  by_cases n0 : a0 < 0
  · clear h
    have d0 : decide (a0 < 0) = true := decide_eq_true n0
    clear n0
    go_enter Try.func24, Try.ntmps24
    go_wp2
    go_ret2
    exact ⟨rfl, rfl⟩
  · have d0 : decide (a0 < 0) = false := decide_eq_false n0
    have n1 : 0 ≤ a0 := by omega
    have d1 : (a0 / 4294967296 != 0) = true := by simp; exact fun h' => h ⟨n1, h'⟩
    clear h n0
    go_enter Try.func24, Try.ntmps24
    go_wp2
    go_ret2
    exact ⟨rfl, rfl⟩
theorem tlv_Int.noW (a0 a1 : Int) (w : World) (h1 : ¬ a1 = 1) (h2 : ¬ a1 = 2) (h4 : ¬ a1 = 4) :
    Calls Try.prog 24 #[.int .i64 a0, .int .i64 a1] w fun e w' => e = .returned (.tuple #[.string ⟨#[]⟩, .int .i64 2]) ∧ w' = w := by
  have d1 : (a1 == 1) = false := by simpa using h1
  have d2 : (a1 == 2) = false := by simpa using h2
  have d4 : (a1 == 4) = false := by simpa using h4
  clear h1 h2 h4
  go_enter Try.func24, Try.ntmps24
  go_wp2
  go_ret2
  exact ⟨rfl, rfl⟩
theorem tlv_Int.calls (a0 a1 : Int) (r1 : ByteArray) (r2 : Int) (w : World) (h : tlv_Int.f a0 a1 = some (r1, r2)) :
    Calls Try.prog 24 #[.int .i64 a0, .int .i64 a1] w fun e w' => e = .returned (.tuple #[.string r1, .int .i64 r2]) ∧ Below w.heap.size w w' := by
  have bel : ∀ o : Obj, Below w.heap.size w (w.alloc o) := fun o => (Below.refl _ _).alloc (Nat.le_refl _) _
  unfold tlv_Int.f tlvFits at h
  by_cases w1 : a1 = 1
  · subst w1
    by_cases c : 0 ≤ a0 ∧ a0 / 256 = 0
    · rw [if_pos (by simp [c.1, c.2])] at h
      simp only [Option.some.injEq, Prod.mk.injEq] at h
      obtain ⟨rfl, rfl⟩ := h
      exact (tlv_Int.ok1 a0 w c.1 c.2).mono fun e w' ⟨p, q⟩ => ⟨p, q ▸ bel _⟩
    · rw [if_neg (by simpa using c)] at h
      simp only [Option.some.injEq, Prod.mk.injEq] at h
      obtain ⟨rfl, rfl⟩ := h
      exact (tlv_Int.no1 a0 w c).mono fun e w' ⟨p, q⟩ => ⟨p, q ▸ Below.refl _ _⟩
  · by_cases w2 : a1 = 2
    · subst w2
      by_cases c : 0 ≤ a0 ∧ a0 / 65536 = 0
      · rw [if_pos (by simp [c.1, c.2])] at h
        simp only [Option.some.injEq, Prod.mk.injEq] at h
        obtain ⟨rfl, rfl⟩ := h
        exact (tlv_Int.ok2 a0 w c.1 c.2).mono fun e w' ⟨p, q⟩ => ⟨p, q ▸ bel _⟩
      · rw [if_neg (by simpa using c)] at h
        simp only [Option.some.injEq, Prod.mk.injEq] at h
        obtain ⟨rfl, rfl⟩ := h
        exact (tlv_Int.no2 a0 w c).mono fun e w' ⟨p, q⟩ => ⟨p, q ▸ Below.refl _ _⟩
    · by_cases w4 : a1 = 4
      · subst w4
        by_cases c : 0 ≤ a0 ∧ a0 / 4294967296 = 0
        · rw [if_pos (by simp [c.1, c.2])] at h
          simp only [Option.some.injEq, Prod.mk.injEq] at h
          obtain ⟨rfl, rfl⟩ := h
          exact (tlv_Int.ok4 a0 w c.1 c.2).mono fun e w' ⟨p, q⟩ => ⟨p, q ▸ bel _⟩
        · rw [if_neg (by simpa using c)] at h
          simp only [Option.some.injEq, Prod.mk.injEq] at h
          obtain ⟨rfl, rfl⟩ := h
          exact (tlv_Int.no4 a0 w c).mono fun e w' ⟨p, q⟩ => ⟨p, q ▸ Below.refl _ _⟩
      · rw [if_neg (by simp [w1, w2, w4])] at h
        simp only [Option.some.injEq, Prod.mk.injEq] at h
        obtain ⟨rfl, rfl⟩ := h
        exact (tlv_Int.noW a0 a1 w w1 w2 w4).mono fun e w' ⟨p, q⟩ => ⟨p, q ▸ Below.refl _ _⟩

end Go.Proofs.Ythncdeeakhilfaa.H
