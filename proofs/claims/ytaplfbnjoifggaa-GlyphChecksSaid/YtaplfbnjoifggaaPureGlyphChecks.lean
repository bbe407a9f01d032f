import Derived.Test.YtaplfbnjoifggaaHx4
import Derived.Test.YtaplfbnjoifggaaGood
import Derived.Test.YtaplfbnjoifggaaGlyphLive
import Derived.Test.YtaplfbnjoifggaaUtfRef
namespace Go.Proofs.Ytaplfbnjoifggaa.Pure
open Go.RowKit Go.Proofs.Ytaplfbnjoifggaa.H Go.Proofs.YtaplfbnjoifggaaW.PrintWords Go.Proofs.YtaplfbnjoifggaaW.PrintLast Go.Proofs.YtaplfbnjoifggaaW.PrintMore Go.Proofs.Ytaplfbnjoifggaa.Utf Go.Proofs.Ytaplfbnjoifggaa.Bytes

theorem refPlain (c : Nat) : wharfref01_Plain.f (c : Int) = some (decide (Plain c)) := by
  unfold wharfref01_Plain.f
  by_cases h1 : c = 9
  · subst h1
    rfl
  by_cases h2 : c = 10
  · subst h2
    rfl
  by_cases h3 : c = 13
  · subst h3
    rfl
  rw [if_neg (by omega), if_neg (by omega), if_neg (by omega)]
  by_cases h4 : 32 ≤ c
  · rw [if_pos (by omega)]
    by_cases h5 : c = 65534
    · subst h5
      rfl
    · rw [if_neg (by omega)]
      congr 1
      rw [Bool.eq_iff_iff, decide_eq_true_iff, bne_iff_ne]
      unfold Plain
      omega
  · rw [if_neg (by omega)]
    congr 1
    rw [eq_comm, decide_eq_false_iff_not]
    unfold Plain
    omega
theorem signs_ok : ∀ (cs : List Nat) (s : ByteArray) (out : List Int) (k : Nat), Text cs (L s) → out.length + cs.length ≤ 100000 → cs.length + 14 ≤ k → ∃ r, wharfref01_Signs.l0 k s out = some (r, true) ∧ r.length = out.length + cs.length := by
  intro cs
  induction cs with
  | nil =>
    intro s out k h hn hk
    obtain ⟨k, rfl⟩ : ∃ m, k = m + 1 := ⟨k - 1, by omega⟩
    have h : L s = [] := h
    simp only [wharfref01_Signs.l0]
    rw [toList_L, if_pos h]
    exact ⟨out, rfl, rfl⟩
  | cons c cs ih =>
    intro s out k h hn hk
    rw [List.length_cons] at hn hk
    obtain ⟨k, rfl⟩ : ∃ m, k = m + 1 := ⟨k - 1, by omega⟩
    obtain ⟨t, ht, hs, hp, htx⟩ := h
    have hsg := sgn_enc c hs t
    rw [← ht] at hsg
    have hl : (L s).length = width c + t.length := by rw [ht, List.length_append, enc_length]
    have hw := Utf.width_pos c
    simp only [wharfref01_Signs.l0]
    rw [toList_L, if_neg (fun e => by rw [e] at hl; simp at hl; omega), refFirst_eq _ k (by omega)]
    unfold firstAns
    rw [hsg]
    simp only [Option.bind_some, if_true]
    rw [refPlain, decide_eq_true hp]
    simp only [Option.bind_some, if_true]
    rw [if_pos (by omega), if_pos (by omega), if_pos (by rw [size_L]; omega), Int.toNat_natCast]
    obtain ⟨r, hr, hlen⟩ := ih (s.extract (width c) s.size) (out ++ [(c : Int)]) k (by rw [tail_of ht]; exact htx) (by rw [List.length_append, List.length_cons, List.length_nil]; omega) (by omega)
    refine ⟨r, hr, ?_⟩
    rw [hlen, List.length_append, List.length_cons, List.length_cons, List.length_nil]
    omega
theorem signs_no : ∀ (d : Nat) (s : ByteArray) (out : List Int) (k : Nat), s.size ≤ d → (¬ ∃ cs, Text cs (L s)) → out.length + d ≤ 100000 → d + 14 ≤ k → wharfref01_Signs.l0 k s out = some ([], false) := by
  intro d
  induction d with
  | zero =>
    intro s out k h hno hn hk
    exact absurd (List.length_eq_zero_iff.mp (Nat.le_zero.mp h)) (no_text hno).1
  | succ d ih =>
    intro s out k h hno hn hk
    obtain ⟨k, rfl⟩ : ∃ m, k = m + 1 := ⟨k - 1, by omega⟩
    obtain ⟨hne, hcase⟩ := no_text hno
    simp only [wharfref01_Signs.l0]
    rw [toList_L, if_neg hne, refFirst_eq _ k (by omega)]
    unfold firstAns
    rcases hcase with h0 | ⟨c, t, h1, ht, hc, h2⟩
    · rw [h0]
      rfl
    · have hl : (L s).length = width c + t.length := by rw [ht, List.length_append, enc_length]
      have hw := Utf.width_pos c
      rw [h1]
      simp only [Option.bind_some, if_true]
      rw [refPlain]
      simp only [Option.bind_some]
      rcases h2 with h2 | ⟨h2, h3⟩
      · rw [decide_eq_false h2]
        rfl
      · rw [decide_eq_true h2, if_pos rfl, if_pos (by omega), if_pos (by omega), if_pos (by rw [size_L]; omega), Int.toNat_natCast]
        exact ih _ _ k (by rw [size_L, tail_of ht]; rw [size_L] at h; omega) (by rw [tail_of ht]; exact h3) (by rw [List.length_append, List.length_cons, List.length_nil]; omega) (by omega)
theorem GlyphChecks : ∀ (a0 : ByteArray), a0.size ≤ 140737488351232 → ∃ k, wharflaw01_GlyphChecks.f k a0 = some true := by
  intro s hs
  refine ⟨6000, ?_⟩
  unfold wharflaw01_GlyphChecks.f
  rw [live 6000 (by omega)]
  split
  · rfl
  rename_i hz
  by_cases h : ∃ cs, Text cs (L s)
  · obtain ⟨cs, hcs⟩ := h
    have hl := hcs.length
    rw [← size_L] at hl
    obtain ⟨r, hr, hrl⟩ := signs_ok cs s [] 6000 hcs (by simp; omega) (by omega)
    unfold wharfref01_Signs.f
    rw [hr, Len_ok hcs hs 6000 (by omega), Check_ok hcs hs 6000 (by omega)]
    simp only [Option.bind_some, num_eq]
    rw [if_pos (by rfl), if_pos (by rfl), if_pos (by rw [hrl]; simp), if_pos trivial]
  · unfold wharfref01_Signs.f
    rw [signs_no s.size s [] 6000 (Nat.le_refl _) h (by simp; omega) (by omega), Len_no h hs 6000 (by omega), Check_no h hs 6000 (by omega)]
    rfl
end Go.Proofs.Ytaplfbnjoifggaa.Pure
