import Derived.Test.YtaplfbnjoifggaaHx11
import Derived.Test.YtaplfbnjoifggaaGood
import Derived.Test.YtaplfbnjoifggaaGlyphLive
import Derived.Test.YtaplfbnjoifggaaBounds
namespace Go.Proofs.Ytaplfbnjoifggaa.Pure
open Go.RowKit Go.Proofs.Ytaplfbnjoifggaa.H Go.Proofs.YtaplfbnjoifggaaW.PrintWords Go.Proofs.YtaplfbnjoifggaaW.PrintLast Go.Proofs.YtaplfbnjoifggaaW.PrintMore Go.Proofs.Ytaplfbnjoifggaa.Utf Go.Proofs.Ytaplfbnjoifggaa.Bytes

/-! ### what Trim leaves is a text -/
theorem blank_enc (c : Nat) (h : Sign c) (h1 : ¬ c < 128) : ∃ u t, enc c = u :: t ∧ blankU u = false := by
  have key0 : ∀ x : Nat, x < 256 → 128 ≤ x → blankU (UInt8.ofNat x) = false := by decide +kernel
  have key : ∀ x : Nat, 128 ≤ x → x < 256 → blankU (UInt8.ofNat x) = false := fun x h1 h2 => key0 x h2 h1
  unfold Sign at h
  unfold enc
  rw [if_neg h1]
  by_cases h2 : c < 2048
  · rw [if_pos h2]; exact ⟨_, _, rfl, key _ (by omega) (by omega)⟩
  · rw [if_neg h2]
    by_cases h3 : c < 65536
    · rw [if_pos h3]; exact ⟨_, _, rfl, key _ (by omega) (by omega)⟩
    · rw [if_neg h3]; exact ⟨_, _, rfl, key _ (by omega) (by omega)⟩
theorem text_trimL {cs : List Nat} : ∀ {l : List UInt8}, Text cs l → ∃ ds, Text ds (trimL l) := by
  induction cs with
  | nil =>
    intro l h
    have h : l = [] := h
    subst h
    exact ⟨[], rfl⟩
  | cons c cs ih =>
    intro l h
    obtain ⟨t, rfl, hs, hp, ht⟩ := h
    by_cases h1 : c < 128
    · have e : enc c = [UInt8.ofNat c] := by unfold enc; rw [if_pos h1]
      by_cases hb : blankU (UInt8.ofNat c) = true
      · obtain ⟨ds, hd⟩ := ih ht
        refine ⟨ds, ?_⟩
        unfold trimL
        rw [e, List.singleton_append, List.dropWhile_cons_of_pos hb]
        exact hd
      · refine ⟨c :: cs, ?_⟩
        unfold trimL
        rw [e, List.singleton_append, List.dropWhile_cons_of_neg hb]
        exact ⟨t, by rw [e]; rfl, hs, hp, ht⟩
    · obtain ⟨u, v, e, hb⟩ := blank_enc c hs h1
      refine ⟨c :: cs, ?_⟩
      unfold trimL
      rw [e, List.cons_append, List.dropWhile_cons_of_neg (by rw [hb]; exact Bool.false_ne_true)]
      exact ⟨t, by rw [e]; rfl, hs, hp, ht⟩
theorem trimR_snoc (m : List UInt8) (u : UInt8) : trimR (m ++ [u]) = if blankU u = true then trimR m else m ++ [u] := by
  unfold trimR
  rw [List.reverse_append, List.reverse_singleton, List.singleton_append]
  by_cases h : blankU u = true
  · rw [if_pos h, List.dropWhile_cons_of_pos h]
  · rw [if_neg h, List.dropWhile_cons_of_neg h, List.reverse_cons, List.reverse_reverse]
theorem blank_cont (u : UInt8) (h : blankU u = true) : contU u = false := by
  revert h
  have : ∀ x : Nat, x < 256 → blankU (UInt8.ofNat x) = true → contU (UInt8.ofNat x) = false := by decide +kernel
  have h2 := this u.toNat u.toNat_lt
  simpa using h2
theorem text_trimR : ∀ (n : Nat) {cs : List Nat} {l : List UInt8}, l.length ≤ n → Text cs l → ∃ ds, Text ds (trimR l) := by
  intro n
  induction n with
  | zero =>
    intro cs l hl h
    obtain rfl : l = [] := List.length_eq_zero_iff.mp (by omega)
    exact ⟨[], rfl⟩
  | succ n ih =>
    intro cs l hl h
    by_cases h0 : l = []
    · subst h0
      exact ⟨[], rfl⟩
    · obtain ⟨m, u, rfl⟩ : ∃ m u, l = m ++ [u] := ⟨l.dropLast, l.getLast h0, (List.dropLast_concat_getLast h0).symm⟩
      rw [trimR_snoc]
      rw [List.length_append, List.length_singleton] at hl
      by_cases hb : blankU u = true
      · rw [if_pos hb]
        have hB : Bound (m ++ [u]) m.length := by
          refine Or.inr ?_
          rw [List.getD_eq_getElem?_getD, List.getElem?_append_right (Nat.le_refl _), Nat.sub_self]
          exact blank_cont u hb
        obtain ⟨us, bs, _, h1, _⟩ := h.cut m.length hB (by rw [List.length_append]; omega)
        rw [List.take_left] at h1
        exact ih (by omega) h1
      · rw [if_neg hb]
        exact ⟨cs, h⟩
theorem text_trim {cs : List Nat} {l : List UInt8} (h : Text cs l) : ∃ ds, Text ds (trimR (trimL l)) := by
  obtain ⟨ds, hd⟩ := text_trimL h
  exact text_trimR _ (Nat.le_refl _) hd
/-! ### Trim twice -/
theorem trimR_cons (a : UInt8) (y : List UInt8) (h : blankU a = false) : trimR (a :: y) = a :: trimR y := by
  unfold trimR
  rw [List.reverse_cons, List.dropWhile_append]
  split
  · rename_i he
    have : y.reverse.dropWhile blankU = [] := List.isEmpty_iff.mp he
    rw [this, List.dropWhile_cons_of_neg (by rw [h]; exact Bool.false_ne_true)]
    rfl
  · rw [List.reverse_append, List.reverse_singleton, List.singleton_append]
theorem drop_idem (l : List UInt8) : (l.dropWhile blankU).dropWhile blankU = l.dropWhile blankU := by
  induction l with
  | nil => rfl
  | cons a l ih =>
    by_cases h : blankU a = true
    · rw [List.dropWhile_cons_of_pos h]; exact ih
    · rw [List.dropWhile_cons_of_neg h, List.dropWhile_cons_of_neg h]
theorem trimR_idem (l : List UInt8) : trimR (trimR l) = trimR l := by
  unfold trimR
  rw [List.reverse_reverse, drop_idem]
theorem trimL_head (l : List UInt8) : trimL l = [] ∨ ∃ a y, trimL l = a :: y ∧ blankU a = false := by
  induction l with
  | nil => exact Or.inl rfl
  | cons a l ih =>
    unfold trimL at ih ⊢
    by_cases h : blankU a = true
    · rw [List.dropWhile_cons_of_pos h]; exact ih
    · rw [List.dropWhile_cons_of_neg h]
      exact Or.inr ⟨a, l, rfl, by simpa using h⟩
theorem trim_idem (l : List UInt8) : trimR (trimL (trimR (trimL l))) = trimR (trimL l) := by
  rcases trimL_head l with h | ⟨a, y, h, hb⟩
  · rw [h]; rfl
  · rw [h, trimR_cons a y hb]
    have : trimL (a :: trimR y) = a :: trimR y := by
      unfold trimL
      rw [List.dropWhile_cons_of_neg (by rw [hb]; exact Bool.false_ne_true)]
    rw [this, trimR_cons a _ hb, trimR_idem]
theorem trim_wrap (l : List UInt8) : trimR (trimL (32 :: (l ++ [10]))) = trimR (trimL l) := by
  have h1 : trimL (32 :: (l ++ [10])) = trimL (l ++ [10]) := by
    unfold trimL
    rw [List.dropWhile_cons_of_pos (by decide)]
  rw [h1]
  have h2 : trimL (l ++ [10]) = if (trimL l).isEmpty then [] else trimL l ++ [10] := by
    unfold trimL
    rw [List.dropWhile_append]
    rfl
  rw [h2]
  by_cases he : (trimL l).isEmpty = true
  · rw [if_pos he, List.isEmpty_iff.mp he]
  · rw [if_neg he, trimR_snoc, if_pos (by decide)]
/-! ### Fold of a text -/
def foldC (c : Nat) : Nat := if 65 ≤ c ∧ c ≤ 90 then c + 32 else c
theorem foldU_big (x : Nat) (h1 : 128 ≤ x) (h2 : x < 256) : foldU (UInt8.ofNat x) = UInt8.ofNat x := by
  unfold foldU
  rw [if_neg]
  rw [toNat_of _ h2]
  omega
theorem fold_enc (c : Nat) (h : Sign c) : (enc c).map foldU = enc (foldC c) := by
  by_cases h1 : c < 128
  · have : ∀ x : Nat, x < 128 → (enc x).map foldU = enc (foldC x) := by decide +kernel
    exact this c h1
  · have e : foldC c = c := by unfold foldC; rw [if_neg (by omega)]
    rw [e]
    unfold Sign at h
    unfold enc
    rw [if_neg h1]
    by_cases h2 : c < 2048
    · rw [if_pos h2, List.map_cons, List.map_cons, List.map_nil, foldU_big _ (by omega) (by omega), foldU_big _ (by omega) (by omega)]
    · rw [if_neg h2]
      by_cases h3 : c < 65536
      · rw [if_pos h3, List.map_cons, List.map_cons, List.map_cons, List.map_nil, foldU_big _ (by omega) (by omega), foldU_big _ (by omega) (by omega), foldU_big _ (by omega) (by omega)]
      · rw [if_neg h3, List.map_cons, List.map_cons, List.map_cons, List.map_cons, List.map_nil, foldU_big _ (by omega) (by omega), foldU_big _ (by omega) (by omega), foldU_big _ (by omega) (by omega), foldU_big _ (by omega) (by omega)]
theorem text_fold {cs : List Nat} : ∀ {l : List UInt8}, Text cs l → Text (cs.map foldC) (l.map foldU) := by
  induction cs with
  | nil =>
    intro l h
    have h : l = [] := h
    subst h
    rfl
  | cons c cs ih =>
    intro l h
    obtain ⟨t, rfl, hs, hp, ht⟩ := h
    refine ⟨t.map foldU, by rw [List.map_append, fold_enc c hs], ?_, ?_, ih ht⟩
    · unfold Sign at hs ⊢
      unfold foldC
      split <;> omega
    · unfold Plain at hp ⊢
      unfold foldC
      split <;> omega
theorem cuts_true (s : ByteArray) (n : Int) (k : Nat) (hk : 40 ≤ k) : wharflaw01_GlyphCuts.j0 k s n true = some true := by
  obtain ⟨k, rfl⟩ : ∃ m, k = m + 1 := ⟨k - 1, by omega⟩
  simp only [wharflaw01_GlyphCuts.j0]
  rw [if_pos trivial, live k (by omega)]
  rfl
theorem GlyphCuts : ∀ (a0 : ByteArray) (a1 : Int), a0.size ≤ 140737488351232 → (Lit.int .i64 a1).wf = true → ∃ k, wharflaw01_GlyphCuts.f k a0 a1 = some true := by
  intro s n hs hn
  refine ⟨20000, ?_⟩
  generalize hK : (20000 : Nat) = K
  unfold wharflaw01_GlyphCuts.f
  split
  · exact cuts_true s n K (by omega)
  rename_i hz
  by_cases h : ∃ cs, Text cs (L s)
  · obtain ⟨cs, hcs⟩ := h
    rw [Check_ok hcs hs K (by omega), Option.bind_some, num_eq, Option.bind_some]
    obtain ⟨M, hM⟩ : ∃ m, K = m + 2 := ⟨K - 2, by omega⟩
    rw [hM]
    rw [show (((0 : Int)) != 0) = false from rfl]
    simp only [wharflaw01_GlyphCuts.j0]
    rw [if_neg Bool.false_ne_true]
    obtain ⟨r, hr, hL⟩ := Head_eq s hs n (M + 1) (by omega)
    obtain ⟨t, ht, hT⟩ := Trim_eq s hs (M + 1) (by omega)
    have hle := headLen_le (L s) n
    have hb := headLen_bound hcs n
    obtain ⟨us, bs, _, _, htb⟩ := hcs.cut _ hb hle.1
    have hrs : r.size = headLen (L s) n := by rw [size_L, hL, List.length_take]; omega
    have hll : (L s).length = s.size := rfl
    have hts : t.size ≤ s.size := by
      rw [size_L, hT]
      unfold trimR trimL
      rw [List.length_reverse]
      refine Nat.le_trans (List.IsSuffix.length_le (List.dropWhile_suffix _)) ?_
      rw [List.length_reverse]
      exact List.IsSuffix.length_le (List.dropWhile_suffix _)
    obtain ⟨ts, htt⟩ := text_trim hcs
    rw [← hT] at htt
    rw [hr, Option.bind_some, ht, Option.bind_some, if_neg (by omega), decide_eq_false (by omega)]
    simp only [wharflaw01_GlyphCuts.j1]
    rw [if_neg Bool.false_ne_true, if_pos (by omega), if_pos (by omega)]
    have hex : L (s.extract r.size s.size) = (L s).drop (headLen (L s) n) := by rw [L_tail, hrs]
    rw [← hex] at htb
    have hes : (s.extract r.size s.size).size ≤ s.size := by rw [size_L, hex, List.length_drop]; omega
    rw [Check_ok htb (by omega) M (by omega), Option.bind_some, num_eq, Option.bind_some, if_pos rfl, Check_ok htt (by omega) M (by omega), Option.bind_some, num_eq, Option.bind_some, if_pos rfl]
    obtain ⟨t2, ht2, hT2⟩ := Trim_eq t (by omega) M (by omega)
    have e2 : L t2 = L t := by rw [hT2, hT, trim_idem]
    rw [ht2, Option.bind_some, toList_L, toList_L, if_pos e2, if_pos (by omega)]
    have hz1 : ((⟨#[32]⟩ : ByteArray) ++ s).size = 1 + s.size := by rw [size_L, L_append, List.length_append]; rfl
    rw [if_pos (by rw [hz1]; omega)]
    have hz3 : L (((⟨#[32]⟩ : ByteArray) ++ s) ++ (⟨#[10]⟩ : ByteArray)) = 32 :: (L s ++ [10]) := by rw [L_append, L_append]; rfl
    have hz2 : (((⟨#[32]⟩ : ByteArray) ++ s) ++ (⟨#[10]⟩ : ByteArray)).size = s.size + 2 := by rw [size_L, hz3, List.length_cons, List.length_append]; rfl
    obtain ⟨t3, ht3, hT3⟩ := Trim_eq (((⟨#[32]⟩ : ByteArray) ++ s) ++ (⟨#[10]⟩ : ByteArray)) (by omega) M (by omega)
    have e3 : L t3 = L t := by rw [hT3, hz3, trim_wrap, hT]
    rw [ht3, Option.bind_some, toList_L, if_pos e3]
    obtain ⟨f, hf, hF⟩ := Fold_eq s hs
    have hft := text_fold hcs
    rw [← hF] at hft
    have hfs : f.size = s.size := by rw [size_L, hF, List.length_map]; exact hll
    rw [hf, Option.bind_some, Check_ok hft (by omega) M (by omega), Option.bind_some, num_eq, Option.bind_some, if_pos rfl, live M (by omega)]
    rfl
  · rw [Check_no h hs K (by omega), Option.bind_some, num_eq, Option.bind_some]
    exact cuts_true s n K (by omega)
end Go.Proofs.Ytaplfbnjoifggaa.Pure
