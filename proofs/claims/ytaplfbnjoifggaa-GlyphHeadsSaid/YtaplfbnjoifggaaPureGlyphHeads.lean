import Derived.Test.YtaplfbnjoifggaaHx9
import Derived.Test.YtaplfbnjoifggaaGood
import Derived.Test.YtaplfbnjoifggaaGlyphLive
import Derived.Test.YtaplfbnjoifggaaBounds
namespace Go.Proofs.Ytaplfbnjoifggaa.Pure
open Go.RowKit Go.Proofs.Ytaplfbnjoifggaa.H Go.Proofs.YtaplfbnjoifggaaW.PrintWords Go.Proofs.YtaplfbnjoifggaaW.PrintLast Go.Proofs.YtaplfbnjoifggaaW.PrintMore Go.Proofs.Ytaplfbnjoifggaa.Utf Go.Proofs.Ytaplfbnjoifggaa.Bytes

theorem heads_true (s : ByteArray) (n : Int) (k : Nat) (hk : 40 ≤ k) : wharflaw01_GlyphHeads.j0 k s n true = some true := by
  obtain ⟨k, rfl⟩ : ∃ m, k = m + 1 := ⟨k - 1, by omega⟩
  simp only [wharflaw01_GlyphHeads.j0]
  rw [if_pos trivial, live k (by omega)]
  rfl
theorem GlyphHeads : ∀ (a0 : ByteArray) (a1 : Int), a0.size ≤ 140737488351232 → (Lit.int .i64 a1).wf = true → ∃ k, wharflaw01_GlyphHeads.f k a0 a1 = some true := by
  intro s n hs hn
  refine ⟨20000, ?_⟩
  generalize hK : (20000 : Nat) = K
  unfold wharflaw01_GlyphHeads.f
  split
  · exact heads_true s n K (by omega)
  rename_i hz
  by_cases h : ∃ cs, Text cs (L s)
  · obtain ⟨cs, hcs⟩ := h
    rw [Check_ok hcs hs K (by omega), Option.bind_some, num_eq, Option.bind_some]
    obtain ⟨M, hM⟩ : ∃ m, K = m + 1 := ⟨K - 1, by omega⟩
    rw [hM]
    rw [show (((0 : Int)) != 0) = false from rfl]
    simp only [wharflaw01_GlyphHeads.j0]
    rw [if_neg Bool.false_ne_true]
    obtain ⟨r, hr, hL⟩ := Head_eq s hs n M (by omega)
    have hle := headLen_le (L s) n
    have hb := headLen_bound hcs n
    obtain ⟨us, bs, _, hta, _⟩ := hcs.cut _ hb hle.1
    rw [← hL] at hta
    have hrs : r.size = headLen (L s) n := by rw [size_L, hL, List.length_take]; omega
    have hll : (L s).length = s.size := rfl
    have hl := live M (by omega)
    rw [hr, Option.bind_some, if_neg (by omega), if_pos (by omega), if_pos (by omega), toList_L, toList_L, L_head, hrs, ← hL, if_pos rfl, if_neg (by omega), Check_ok hta (by omega) M (by omega), Option.bind_some, num_eq, Option.bind_some, if_pos rfl, hl]
    by_cases he : ((headLen (L s) n : Nat) : Int) = (s.size : Int)
    · rw [if_pos he]
      rfl
    · rw [if_neg he]
      have hlt : ¬ n ≥ ((L s).length : Int) := by
        intro hge
        apply he
        unfold headLen
        rw [if_pos hge]
        rfl
      by_cases h0 : n < 0
      · have e0 : headLen (L s) n = 0 := by
          unfold headLen
          rw [if_neg hlt, if_pos h0]
          rfl
        rw [if_pos h0]
        have : L r = [] := by rw [hL, e0]; rfl
        rw [if_pos this]
        rfl
      · rw [if_neg h0]
        have e1 : headLen (L s) n = headAt (L s) n.toNat := by
          unfold headLen
          rw [if_neg hlt, if_neg h0]
        obtain ⟨j, h1, h2, h3⟩ := hcs.near n.toNat (by omega)
        have h4 := headAt_ge (L s) n.toNat j h1 h3
        have hwf : -9223372036854775808 ≤ n ∧ n < 9223372036854775808 := by omega
        rw [if_pos]
        · rfl
        · rw [wrap_id _ (by omega) (by omega), e1]
          omega
  · rw [Check_no h hs K (by omega), Option.bind_some, num_eq, Option.bind_some]
    exact heads_true s n K (by omega)
end Go.Proofs.Ytaplfbnjoifggaa.Pure
