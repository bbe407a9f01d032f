import Derived.Test.YtaplfbnjoifggaaHx7
import Derived.Test.YtaplfbnjoifggaaGood
import Derived.Test.YtaplfbnjoifggaaGlyphLive
namespace Go.Proofs.Ytaplfbnjoifggaa.Pure
open Go.RowKit Go.Proofs.Ytaplfbnjoifggaa.H Go.Proofs.YtaplfbnjoifggaaW.PrintWords Go.Proofs.YtaplfbnjoifggaaW.PrintLast Go.Proofs.YtaplfbnjoifggaaW.PrintMore Go.Proofs.Ytaplfbnjoifggaa.Utf Go.Proofs.Ytaplfbnjoifggaa.Bytes

theorem whole_loop (s : ByteArray) (hs : s.size ≤ 5000) : ∀ (rest : List Nat) (u out : ByteArray) (i n : Nat) (k : Nat), Text rest (L u) → L out ++ L u = L s → i + rest.length = n → n ≤ 5000 → rest.length + 40 ≤ k →
    wharflaw01_GlyphWhole.l0 k s (n : Int) u out (i : Int) = some true := by
  intro rest
  induction rest with
  | nil =>
    intro u out i n k h hL hi hn hk
    obtain ⟨k, rfl⟩ : ∃ m, k = m + 1 := ⟨k - 1, by omega⟩
    have h : L u = [] := h
    rw [h, List.append_nil] at hL
    simp only [List.length_nil] at hi
    simp only [wharflaw01_GlyphWhole.l0]
    rw [if_neg (by omega), toList_L, toList_L, toList_L, if_pos h, if_pos hL, live k (by omega)]
    rfl
  | cons c rest ih =>
    intro u out i n k h hL hi hn hk
    rw [List.length_cons] at hi hk
    obtain ⟨k, rfl⟩ : ∃ m, k = m + 1 := ⟨k - 1, by omega⟩
    obtain ⟨t, ht, hc, hp, htx⟩ := h
    have hsg := sgn_enc c hc t
    rw [← ht] at hsg
    have hl : (L u).length = width c + t.length := by rw [ht, List.length_append, enc_length]
    have hlen := congrArg List.length hL
    rw [List.length_append] at hlen
    have hw := Utf.width_pos c
    have he := enc_encode c hc
    have hez : (Utf8.encode (c : Int)).size = width c := by rw [size_L, he, enc_length]
    have e1 : out.size = (L out).length := rfl
    have e2 : s.size = (L s).length := rfl
    have e3 : u.size = (L u).length := rfl
    simp only [wharflaw01_GlyphWhole.l0]
    rw [if_pos (by omega), First_eq]
    unfold firstAns
    rw [hsg]
    simp only [Option.bind_some]
    rw [put_sign c hc]
    simp only [Option.bind_some, num_eq]
    generalize Utf8.encode (c : Int) = b at he hez ⊢
    rw [if_pos (show wrap64 (0 + 0) = 0 by unfold wrap64; decide), if_neg (by omega), if_neg (by omega), if_pos (by omega), if_pos (by omega), if_pos (by omega), Int.toNat_natCast, wrap_id _ (by omega) (by omega)]
    rw [show ((i : Int) + 1) = ((i + 1 : Nat) : Int) by omega]
    refine ih _ _ (i + 1) n k (by rw [tail_of ht]; exact htx) ?_ (by omega) hn (by omega)
    rw [tail_of ht, L_append, he, List.append_assoc, ← ht]
    exact hL
theorem whole_j0 (s : ByteArray) (hs : s.size ≤ 5000) (cs : List Nat) (h : Text cs (L s)) (k : Nat) (hk : s.size + 50 ≤ k) : wharflaw01_GlyphWhole.j0 k s (cs.length : Int) 0 false = some true := by
  obtain ⟨k, rfl⟩ : ∃ m, k = m + 1 := ⟨k - 1, by omega⟩
  have hl := h.length
  rw [← size_L] at hl
  simp only [wharflaw01_GlyphWhole.j0]
  rw [if_neg Bool.false_ne_true, num_eq]
  simp only [Option.bind_some, if_true]
  exact whole_loop s hs cs s ⟨#[]⟩ 0 cs.length k h (by simp [L]) (by omega) (by omega) (by omega)
theorem GlyphWhole : ∀ (a0 : ByteArray) (a1 : ByteArray), a0.size ≤ 140737488351232 → a1.size ≤ 140737488351232 → ∃ k, wharflaw01_GlyphWhole.f k a0 a1 = some true := by
  intro s t hs ht
  refine ⟨20000, ?_⟩
  generalize hK : (20000 : Nat) = K
  unfold wharflaw01_GlyphWhole.f
  rw [live K (by omega), wrap_id _ (by omega) (by omega)]
  split
  · rfl
  rename_i hz
  have hst : (s ++ t).size = s.size + t.size := ByteArray.size_append
  by_cases h : ∃ cs, Text cs (L s)
  · obtain ⟨cs, hcs⟩ := h
    have hl := hcs.length
    rw [← size_L] at hl
    have hj := whole_j0 s (by omega) cs hcs K (by omega)
    rw [Len_ok hcs hs K (by omega)]
    simp only [Option.bind_some, num_eq]
    by_cases g : ∃ ds, Text ds (L t)
    · obtain ⟨ds, hds⟩ := g
      have hl2 := hds.length
      rw [← size_L] at hl2
      have hb := hcs.append hds
      rw [← L_append] at hb
      rw [Len_ok hds ht K (by omega)]
      simp only [Option.bind_some]
      rw [if_pos (by omega), Len_ok hb (by omega) K (by omega), Option.bind_some]
      rw [if_pos (show wrap64 (0 + 0) = 0 by unfold wrap64; decide), if_pos rfl, wrap_id _ (by omega) (by omega), List.length_append]
      rw [show (((cs.length + ds.length : Nat) : Int) != ((cs.length : Int) + (ds.length : Int))) = false by rw [bne_eq_false_iff_eq]; omega]
      exact hj
    · rw [Len_no g ht K (by omega)]
      simp only [Option.bind_some]
      rw [if_pos (by omega)]
      by_cases g2 : ∃ es, Text es (L (s ++ t))
      · obtain ⟨es, hes⟩ := g2
        rw [Len_ok hes (by omega) K (by omega)]
        simp only [Option.bind_some]
        rw [if_neg (show ¬ wrap64 (0 + 10) = 0 by unfold wrap64; decide)]
        exact hj
      · rw [Len_no g2 (by omega) K (by omega)]
        simp only [Option.bind_some]
        rw [if_neg (show ¬ wrap64 (0 + 10) = 0 by unfold wrap64; decide)]
        exact hj
  · rw [Len_no h hs K (by omega)]
    simp only [Option.bind_some, num_eq]
    have hno : ∀ x : Int, wharflaw01_GlyphWhole.j0 K s 0 10 false = some true := by
      intro _
      obtain ⟨M, hM⟩ : ∃ m, K = m + 1 := ⟨K - 1, by omega⟩
      rw [hM]
      simp only [wharflaw01_GlyphWhole.j0]
      rw [if_neg Bool.false_ne_true, num_eq]
      simp only [Option.bind_some]
      rw [if_neg (by decide), live M (by omega)]
      rfl
    have hlen : ∃ p, glyph_Len.f K t = some p ∧ (p.2 = 0 ∨ p.2 = 10) := by
      by_cases g : ∃ ds, Text ds (L t)
      · obtain ⟨ds, hds⟩ := g
        exact ⟨_, Len_ok hds ht K (by omega), Or.inl rfl⟩
      · exact ⟨_, Len_no g ht K (by omega), Or.inr rfl⟩
    have hlen2 : ∃ p, glyph_Len.f K (s ++ t) = some p := by
      by_cases g : ∃ ds, Text ds (L (s ++ t))
      · obtain ⟨ds, hds⟩ := g
        exact ⟨_, Len_ok hds (by omega) K (by omega)⟩
      · exact ⟨_, Len_no g (by omega) K (by omega)⟩
    obtain ⟨p, hp, hpe⟩ := hlen
    obtain ⟨q, hq⟩ := hlen2
    rw [hp]
    simp only [Option.bind_some]
    rw [if_pos (by omega), hq]
    simp only [Option.bind_some]
    rw [if_neg]
    · exact hno 0
    · rcases hpe with h0 | h0 <;> rw [h0] <;> unfold wrap64 <;> decide
end Go.Proofs.Ytaplfbnjoifggaa.Pure
