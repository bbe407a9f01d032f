/-
  Texts, in plain terms: bytes that are the bytes of plain signs, one behind the other; what glyph.First, Put, Len and Check compute.
-/
import Derived.Test.YtepdfpclicdpfaaUtf
import Derived.Test.YtepdfpclicdpfaaHx37
import Derived.Test.YtepdfpclicdpfaaHx34
import Derived.Test.YtepdfpclicdpfaaHx36
import Derived.Test.YtepdfpclicdpfaaHx38
namespace Go.Proofs.Ytepdfpclicdpfaa.Utf
open Go.RowKit Go.Proofs.YtepdfpclicdpfaaW.PrintWords Go.Proofs.Ytepdfpclicdpfaa.Bytes Go.Lib Go.Proofs.Ytepdfpclicdpfaa.H

theorem glyphWidth_eq (c : Nat) : glyphWidth (c : Int) = (width c : Int) := by
  unfold glyphWidth width
  by_cases h1 : c < 128
  · rw [if_pos (by omega), if_pos h1]; rfl
  · rw [if_neg (by omega), if_neg h1]
    by_cases h2 : c < 2048
    · rw [if_pos (by omega), if_pos h2]; rfl
    · rw [if_neg (by omega), if_neg h2]
      by_cases h3 : c < 65536
      · rw [if_pos (by omega), if_pos h3]; rfl
      · rw [if_neg (by omega), if_neg h3]; rfl
/-- what glyph.First answers -/
def firstAns (l : List UInt8) : Int × Int × Int := match sgn l with
  | some (c, n) => ((c : Int), (n : Int), 0)
  | none => (0, 0, 10)
theorem First_eq (s : ByteArray) : glyph_First.f s = some (firstAns (L s)) := by
  unfold glyph_First.f firstAns
  have hdec : Utf8.decode s 0 = decodeL (L s) := by
    have := decodeL_drop s 0
    rw [List.drop_zero] at this
    exact this.symm
  rw [hdec]
  by_cases h0 : s.size = 0
  · rw [if_pos h0]
    have : L s = [] := List.length_eq_zero_iff.mp h0
    rw [this]
    rfl
  · rw [if_neg h0]
    have hne : L s ≠ [] := fun h => h0 (by rw [size_L, h]; rfl)
    by_cases hb : (decodeL (L s)).1 = 65533 ∧ (decodeL (L s)).2 = 1
    · have hs : sgn (L s) = none := by unfold sgn; rw [if_neg hne, if_pos hb]
      rw [hs, if_pos]
      refine ⟨hb.1, ?_⟩
      by_cases h3 : s.size < 3
      · exact Or.inl h3
      · refine Or.inr fun he => ?_
        rw [toList_L, L_head] at he
        have hl : L s = enc 65533 ++ (L s).drop 3 := by
          have := List.take_append_drop 3 (L s)
          rw [he] at this
          exact this.symm
        have := sgn_enc 65533 (by decide) ((L s).drop 3)
        rw [← hl, hs] at this
        cases this
    · have hs : sgn (L s) = some (decodeL (L s)) := by unfold sgn; rw [if_neg hne, if_neg hb]
      obtain ⟨hsg, hw, t, ht⟩ := enc_sgn (c := (decodeL (L s)).1) (n := (decodeL (L s)).2) hs
      rw [hs, if_neg]
      · show some (((decodeL (L s)).1 : Int), glyphWidth ((decodeL (L s)).1 : Int), 0) = some (((decodeL (L s)).1 : Int), ((decodeL (L s)).2 : Int), 0)
        rw [glyphWidth_eq, ← hw]
      · rintro ⟨h1, h2⟩
        rw [h1] at ht
        have h3 : (L s).take 3 = [239, 191, 189] := by rw [ht]; rfl
        rcases h2 with h2 | h2
        · have := congrArg List.length h3
          rw [List.length_take] at this
          have e : (L s).length = s.size := rfl
          simp only [List.length_cons, List.length_nil] at this
          omega
        · exact h2 (by rw [toList_L, L_head]; exact h3)

def Plain (c : Nat) : Prop := c = 9 ∨ c = 10 ∨ c = 13 ∨ (32 ≤ c ∧ c ≠ 65534 ∧ c ≠ 65535)
instance (c : Nat) : Decidable (Plain c) := inferInstanceAs (Decidable (_ ∨ _))
theorem plain_eq (c : Nat) (k : Nat) (hk : 3 ≤ k) : glyph_plain.f k (c : Int) = some (decide (Plain c)) := by
  obtain ⟨k, rfl⟩ : ∃ m, k = m + 1 := ⟨k - 1, by omega⟩
  unfold glyph_plain.f
  by_cases h1 : c = 9
  · subst h1
    rfl
  by_cases h2 : c = 10
  · subst h2
    rfl
  by_cases h3 : c = 13
  · subst h3
    rfl
  rw [if_neg (by omega), if_neg (by omega)]
  simp only [glyph_plain.j0]
  have e3 : (((c : Int)) == 13) = false := by simp; omega
  rw [e3, if_neg (by decide)]
  by_cases h4 : c = 65534
  · subst h4
    rfl
  by_cases h5 : c = 65535
  · subst h5
    rfl
  rw [if_neg (by omega), if_neg (by omega)]
  congr 1
  rw [Bool.eq_iff_iff, decide_eq_true_iff, decide_eq_true_iff]
  unfold Plain
  omega

/-- these bytes are these signs', one behind the other; all are plain -/
def Text : List Nat → List UInt8 → Prop
  | [], l => l = []
  | c :: cs, l => ∃ t, l = enc c ++ t ∧ Sign c ∧ Plain c ∧ Text cs t
theorem Text.one {cs ds : List Nat} : ∀ {l : List UInt8}, Text cs l → Text ds l → cs = ds := by
  induction cs generalizing ds with
  | nil =>
    intro l h g
    have h : l = [] := h
    subst h
    cases ds with
    | nil => rfl
    | cons d ds =>
      obtain ⟨t, e, _⟩ := g
      have := congrArg List.length e
      rw [List.length_append, enc_length] at this
      have := width_pos d
      simp at *
      omega
  | cons c cs ih =>
    intro l h g
    obtain ⟨t, rfl, hs, hp, ht⟩ := h
    cases ds with
    | nil =>
      have g : enc c ++ t = [] := g
      have := congrArg List.length g
      rw [List.length_append, enc_length] at this
      have := width_pos c
      simp at *
      omega
    | cons d ds =>
      obtain ⟨u, e, hs', hp', hu⟩ := g
      have h1 := sgn_enc c hs t
      rw [e, sgn_enc d hs' u] at h1
      obtain ⟨rfl, _⟩ := Prod.mk.inj (Option.some.inj h1)
      have htu : t = u := List.append_cancel_left e
      subst htu
      rw [ih ht hu]
theorem Text.append {cs ds : List Nat} : ∀ {l m : List UInt8}, Text cs l → Text ds m → Text (cs ++ ds) (l ++ m) := by
  induction cs with
  | nil =>
    intro l m h g
    have h : l = [] := h
    subst h
    exact g
  | cons c cs ih =>
    intro l m h g
    obtain ⟨t, rfl, hs, hp, ht⟩ := h
    exact ⟨t ++ m, by rw [List.append_assoc], hs, hp, ih ht g⟩
theorem Text.length {cs : List Nat} : ∀ {l : List UInt8}, Text cs l → cs.length ≤ l.length := by
  induction cs with
  | nil => intro l _; simp
  | cons c cs ih =>
    intro l h
    obtain ⟨t, rfl, _, _, ht⟩ := h
    have := ih ht
    have := width_pos c
    rw [List.length_append, enc_length, List.length_cons]
    omega
/-- the first step of a text that is not empty -/
theorem no_text {l : List UInt8} (h : ¬ ∃ cs, Text cs l) : l ≠ [] ∧ (sgn l = none ∨ ∃ c t, sgn l = some (c, width c) ∧ l = enc c ++ t ∧ Sign c ∧ (¬ Plain c ∨ (Plain c ∧ ¬ ∃ cs, Text cs t))) := by
  refine ⟨fun e => h ⟨[], e⟩, ?_⟩
  cases hs : sgn l with
  | none => exact Or.inl rfl
  | some p =>
    obtain ⟨c, n⟩ := p
    obtain ⟨hc, hn, t, ht⟩ := enc_sgn hs
    refine Or.inr ⟨c, t, by rw [hn], ht, hc, ?_⟩
    by_cases hp : Plain c
    · exact Or.inr ⟨hp, fun ⟨cs, hcs⟩ => h ⟨c :: cs, t, ht, hc, hp, hcs⟩⟩
    · exact Or.inl hp
theorem tail_of {s : ByteArray} {c : Nat} {t : List UInt8} (h : L s = enc c ++ t) : L (s.extract (width c) s.size) = t := by
  rw [L_tail, h, List.drop_append_of_le_length (by rw [enc_length]; omega), List.drop_of_length_le (by rw [enc_length]; omega), List.nil_append]
theorem len_ok : ∀ (cs : List Nat) (s : ByteArray) (n : Nat) (k : Nat), Text cs (L s) → n + cs.length ≤ 4611686018427387904 → cs.length + 4 ≤ k → glyph_Len.l0 k s (n : Int) = some (((n + cs.length : Nat) : Int), 0) := by
  intro cs
  induction cs with
  | nil =>
    intro s n k h hn hk
    obtain ⟨k, rfl⟩ : ∃ m, k = m + 1 := ⟨k - 1, by omega⟩
    have h : L s = [] := h
    simp only [glyph_Len.l0]
    rw [toList_L, if_pos h]
    rfl
  | cons c cs ih =>
    intro s n k h hn hk
    rw [List.length_cons] at hn hk
    obtain ⟨k, rfl⟩ : ∃ m, k = m + 1 := ⟨k - 1, by omega⟩
    obtain ⟨t, ht, hs, hp, htx⟩ := h
    have hsg := sgn_enc c hs t
    rw [← ht] at hsg
    have hl : (L s).length = width c + t.length := by rw [ht, List.length_append, enc_length]
    have hw := width_pos c
    simp only [glyph_Len.l0]
    rw [toList_L, if_neg (fun e => by rw [e] at hl; simp at hl; omega), First_eq]
    unfold firstAns
    rw [hsg]
    simp only [Option.bind_some, if_true]
    rw [plain_eq c k (by omega), decide_eq_true hp]
    simp only [Option.bind_some, if_true]
    rw [if_pos (by omega), if_pos (by rw [size_L]; omega), Int.toNat_natCast, wrap_id _ (by omega) (by omega)]
    rw [show ((n : Int) + 1) = ((n + 1 : Nat) : Int) by omega, ih _ (n + 1) k (by rw [tail_of ht]; exact htx) (by omega) (by omega)]
    rw [List.length_cons]
    congr 2
    omega
theorem len_no : ∀ (d : Nat) (s : ByteArray) (n : Nat) (k : Nat), s.size ≤ d → (¬ ∃ cs, Text cs (L s)) → n + d ≤ 4611686018427387904 → d + 4 ≤ k → glyph_Len.l0 k s (n : Int) = some (0, 10) := by
  intro d
  induction d with
  | zero =>
    intro s n k h hno hn hk
    exact absurd (List.length_eq_zero_iff.mp (Nat.le_zero.mp h)) (no_text hno).1
  | succ d ih =>
    intro s n k h hno hn hk
    obtain ⟨k, rfl⟩ : ∃ m, k = m + 1 := ⟨k - 1, by omega⟩
    obtain ⟨hne, hcase⟩ := no_text hno
    simp only [glyph_Len.l0]
    rw [toList_L, if_neg hne, First_eq]
    unfold firstAns
    rcases hcase with h0 | ⟨c, t, h1, ht, hc, h2⟩
    · rw [h0]
      rfl
    · have hl : (L s).length = width c + t.length := by rw [ht, List.length_append, enc_length]
      have hw := width_pos c
      rw [h1]
      simp only [Option.bind_some, if_true]
      rw [plain_eq c k (by omega)]
      simp only [Option.bind_some]
      rcases h2 with h2 | ⟨h2, h3⟩
      · rw [decide_eq_false h2]
        rfl
      · rw [decide_eq_true h2, if_pos rfl, if_pos (by omega), if_pos (by rw [size_L]; omega), Int.toNat_natCast, wrap_id _ (by omega) (by omega)]
        rw [show ((n : Int) + 1) = ((n + 1 : Nat) : Int) by omega]
        exact ih _ (n + 1) k (by rw [size_L, tail_of ht]; rw [size_L] at h; omega) (by rw [tail_of ht]; exact h3) (by omega) (by omega)
theorem Len_ok {cs : List Nat} {s : ByteArray} (h : Text cs (L s)) (hs : s.size ≤ 140737488351232) (k : Nat) (hk : s.size + 5 ≤ k) : glyph_Len.f k s = some ((cs.length : Int), 0) := by
  have hl := h.length
  rw [← size_L] at hl
  have := len_ok cs s 0 k h (by omega) (by omega)
  unfold glyph_Len.f
  rw [show (0 : Int) = ((0 : Nat) : Int) from rfl, this]
  simp
theorem Len_no {s : ByteArray} (h : ¬ ∃ cs, Text cs (L s)) (hs : s.size ≤ 140737488351232) (k : Nat) (hk : s.size + 5 ≤ k) : glyph_Len.f k s = some (0, 10) := by
  have := len_no s.size s 0 k (Nat.le_refl _) h (by omega) (by omega)
  unfold glyph_Len.f
  exact this
theorem Check_ok {cs : List Nat} {s : ByteArray} (h : Text cs (L s)) (hs : s.size ≤ 140737488351232) (k : Nat) (hk : s.size + 5 ≤ k) : glyph_Check.f k s = some 0 := by
  unfold glyph_Check.f
  rw [Len_ok h hs k hk]
  rfl
theorem Check_no {s : ByteArray} (h : ¬ ∃ cs, Text cs (L s)) (hs : s.size ≤ 140737488351232) (k : Nat) (hk : s.size + 5 ≤ k) : glyph_Check.f k s = some 10 := by
  unfold glyph_Check.f
  rw [Len_no h hs k hk]
  rfl
end Go.Proofs.Ytepdfpclicdpfaa.Utf
