import Derived.Test.YtaaoaikfkgbfhaaWWords
import Derived.Lib.TrimUEq
import Derived.Test.YtaaoaikfkgbfhaaHx23
import Derived.Test.YtaaoaikfkgbfhaaHx28
import Derived.Test.YtaaoaikfkgbfhaaHx39
import Derived.Test.YtaaoaikfkgbfhaaHx9
import Derived.Test.YtaaoaikfkgbfhaaHx10
import Derived.Test.YtaaoaikfkgbfhaaHx11
import Derived.Test.YtaaoaikfkgbfhaaHx12
import Derived.Test.YtaaoaikfkgbfhaaHx8
import Derived.Laws.Bits128
import Derived.Test.YtaaoaikfkgbfhaaHx17
import Derived.Test.YtaaoaikfkgbfhaaHx19
import Derived.Test.YtaaoaikfkgbfhaaHx21
import Derived.Test.YtaaoaikfkgbfhaaHx6
import Derived.Test.YtaaoaikfkgbfhaaGood
namespace Go.Proofs.Ytaaoaikfkgbfhaa.Bytes
open Go.RowKit Go.Proofs.YtaaoaikfkgbfhaaW.PrintWords

/-- a string's bytes -/
abbrev L (s : ByteArray) : List UInt8 := s.data.toList
theorem L_inj {a b : ByteArray} (h : L a = L b) : a = b := ByteArray.ext (Array.toList_inj.mp h)
theorem L_iff {a b : ByteArray} : a = b ↔ L a = L b := ⟨fun h => by rw [h], L_inj⟩
theorem toList_L (s : ByteArray) : s.toList = L s := ByteArray.toList_eq s
theorem toList_inj {a b : ByteArray} : a.toList = b.toList ↔ a = b := by rw [toList_L, toList_L]; exact L_iff.symm
theorem size_L (s : ByteArray) : s.size = (L s).length := rfl
theorem L_append (a b : ByteArray) : L (a ++ b) = L a ++ L b := by simp
theorem L_extract (s : ByteArray) (a b : Nat) : L (s.extract a b) = ((L s).drop a).take (b - a) := by
  simp [L, ByteArray.data_extract]
theorem L_tail (s : ByteArray) (a : Nat) : L (s.extract a s.size) = (L s).drop a := by
  rw [L_extract]
  exact List.take_of_length_le (by rw [List.length_drop]; exact Nat.le_refl _)
theorem L_head (s : ByteArray) (b : Nat) : L (s.extract 0 b) = (L s).take b := by rw [L_extract]; simp
theorem L_mk (l : List UInt8) : L ⟨l.toArray⟩ = l := rfl
theorem L_nums (xs : List Int) : L (strOfNums xs) = xs.map fun n => UInt8.ofNat n.toNat := rfl
theorem bt_L (s : ByteArray) (i : Int) : bt s i = (((L s).getD i.toNat 0).toNat : Int) := by
  unfold bt
  by_cases h : i.toNat < s.size
  · rw [dif_pos h]
    have h' : i.toNat < (L s).length := h
    rw [List.getD_eq_getElem?_getD, List.getElem?_eq_getElem h']
    rfl
  · rw [dif_neg h]
    have h' : (L s).length ≤ i.toNat := Nat.le_of_not_lt h
    rw [List.getD_eq_getElem?_getD, List.getElem?_eq_none h']
    rfl
theorem or_join (a b : Int) (h0 : 0 ≤ a) (h1 : a < 9223372036854775808) (hm : a % 256 = 0) (b0 : 0 ≤ b) (b1 : b < 256) : Go.bits .or .i64 a b = a + b :=
  bits_join .i64 63 (by decide) (fun n h0 h1 => by rw [IntKind.wrap_i64]; omega) 8 a b h0 (by simpa using hm) (by simpa using h1) b0 (by simpa using b1) (by simp; omega)
theorem wrap_id (a : Int) (h0 : -9223372036854775808 ≤ a) (h1 : a < 9223372036854775808) : wrap64 a = a := by unfold wrap64; omega
theorem of_toNat (u : UInt8) : UInt8.ofNat (u.toNat : Int).toNat = u := by simp
theorem toNat_ofNat (n : Int) (h0 : 0 ≤ n) (h1 : n < 256) : ((UInt8.ofNat n.toNat).toNat : Int) = n := by
  rw [UInt8.toNat_ofNat']
  omega
end Go.Proofs.Ytaaoaikfkgbfhaa.Bytes

namespace Go.Proofs.Ytaaoaikfkgbfhaa.Utf
open Go.RowKit Go.Proofs.YtaaoaikfkgbfhaaW.PrintWords Go.Proofs.Ytaaoaikfkgbfhaa.Bytes Go.Lib

/-- is a number a sign? -/
def Sign (c : Nat) : Prop := c < 55296 ∨ (57344 ≤ c ∧ c ≤ 1114111)
instance (c : Nat) : Decidable (Sign c) := inferInstanceAs (Decidable (_ ∨ _))
/-- a sign's bytes -/
def enc (c : Nat) : List UInt8 :=
  if c < 128 then [UInt8.ofNat c]
  else if c < 2048 then [UInt8.ofNat (192 + c / 64), UInt8.ofNat (128 + c % 64)]
  else if c < 65536 then [UInt8.ofNat (224 + c / 4096), UInt8.ofNat (128 + c / 64 % 64), UInt8.ofNat (128 + c % 64)]
  else [UInt8.ofNat (240 + c / 262144), UInt8.ofNat (128 + c / 4096 % 64), UInt8.ofNat (128 + c / 64 % 64), UInt8.ofNat (128 + c % 64)]
def width (c : Nat) : Nat := if c < 128 then 1 else if c < 2048 then 2 else if c < 65536 then 3 else 4
theorem enc_length (c : Nat) : (enc c).length = width c := by
  unfold enc width
  repeat' split
  all_goals rfl
theorem width_pos (c : Nat) : 1 ≤ width c ∧ width c ≤ 4 := by
  unfold width
  repeat' split
  all_goals omega
theorem enc_encode (c : Nat) (h : Sign c) : L (Utf8.encode (c : Int)) = enc c := by
  have hv : Utf8.valid (c : Int) = true := by
    unfold Utf8.valid
    unfold Sign at h
    simp
    omega
  unfold Utf8.encode enc
  simp only [hv, if_true, Int.toNat_natCast]
  repeat' split
  all_goals rfl
/-- the sign at the front of bytes, and how many bytes it has -/
def sgn (l : List UInt8) : Option (Nat × Nat) := if l = [] then none else if (decodeL l).1 = 65533 ∧ (decodeL l).2 = 1 then none else some (decodeL l)
theorem u8_of (u : UInt8) (n : Nat) (h : n = u.toNat) : UInt8.ofNat n = u := by rw [h]; simp
theorem toNat_of (n : Nat) (h : n < 256) : (UInt8.ofNat n).toNat = n := by rw [UInt8.toNat_ofNat']; omega
theorem getD0 (a : UInt8) (l : List UInt8) : (a :: l).getD 0 0 = a := rfl
/-- a sign's bytes, whatever is behind them, have that sign at their front. -/
theorem sgn_enc (c : Nat) (h : Sign c) (t : List UInt8) : sgn (enc c ++ t) = some (c, width c) := by
  have hd : decodeL (enc c ++ t) = (c, width c) := by
    rw [decodeL_N]
    unfold Sign at h
    unfold enc width
    by_cases h1 : c < 128
    · simp only [h1, if_true, List.cons_append, List.nil_append, List.getD_cons_zero]
      rw [toNat_of c (by omega)]
      simp [decodeN, h1]
    · by_cases h2 : c < 2048
      · simp only [h1, h2, if_true, if_false, List.cons_append, List.nil_append, List.getD_cons_zero, List.getD_cons_succ, List.length_cons]
        rw [toNat_of (192 + c / 64) (by omega), toNat_of (128 + c % 64) (by omega)]
        unfold decodeN
        rw [if_neg (by omega), if_pos (by omega), if_pos (by omega)]
        congr 1
        omega
      · by_cases h3 : c < 65536
        · simp only [h1, h2, h3, if_true, if_false, List.cons_append, List.nil_append, List.getD_cons_zero, List.getD_cons_succ, List.length_cons]
          rw [toNat_of (224 + c / 4096) (by omega), toNat_of (128 + c / 64 % 64) (by omega), toNat_of (128 + c % 64) (by omega)]
          unfold decodeN
          rw [if_neg (by omega), if_neg (by omega), if_pos (by omega), if_pos (by omega)]
          congr 1
          omega
        · simp only [h1, h2, h3, if_false, List.cons_append, List.nil_append, List.getD_cons_zero, List.getD_cons_succ, List.length_cons]
          rw [toNat_of (240 + c / 262144) (by omega), toNat_of (128 + c / 4096 % 64) (by omega), toNat_of (128 + c / 64 % 64) (by omega), toNat_of (128 + c % 64) (by omega)]
          unfold decodeN
          rw [if_neg (by omega), if_neg (by omega), if_neg (by omega), if_pos (by omega), if_pos (by omega)]
          congr 1
          omega
  have hne : enc c ++ t ≠ [] := by
    intro he
    have := congrArg List.length he
    rw [List.length_append, enc_length] at this
    have := width_pos c
    simp at *
    omega
  unfold sgn
  rw [if_neg hne, hd, if_neg]
  intro hh
  have h1 : c = 65533 := hh.1
  have h2 : width c = 1 := hh.2
  rw [h1] at h2
  exact absurd h2 (by decide)
/-- the sign at the front of bytes is one, and its bytes are these. -/
theorem enc_sgn {l : List UInt8} {c n : Nat} (h : sgn l = some (c, n)) : Sign c ∧ n = width c ∧ ∃ t, l = enc c ++ t := by
  unfold sgn at h
  by_cases h0 : l = []
  · rw [if_pos h0] at h; cases h
  rw [if_neg h0] at h
  by_cases hb : (decodeL l).1 = 65533 ∧ (decodeL l).2 = 1
  · rw [if_pos hb] at h; cases h
  rw [if_neg hb] at h
  have hd : decodeL l = (c, n) := Option.some.inj h
  rw [hd] at hb
  rw [decodeL_N] at hd
  match l, h0 with
  | a :: l, _ =>
    have ha := a.toNat_lt
    simp only [List.getD_cons_zero, List.getD_cons_succ, List.length_cons] at hd
    unfold decodeN at hd
    unfold Sign
    by_cases h1 : a.toNat < 128
    · rw [if_pos h1] at hd
      obtain ⟨rfl, rfl⟩ := Prod.mk.inj hd
      refine ⟨by omega, by simp [width, h1], l, ?_⟩
      simp only [enc, h1, if_true]
      rw [u8_of a _ rfl]
      rfl
    · rw [if_neg h1] at hd
      match l with
      | [] => 
        rw [if_neg (by simp), if_neg (by simp), if_neg (by simp)] at hd
        obtain ⟨rfl, rfl⟩ := Prod.mk.inj hd
        exact absurd ⟨rfl, rfl⟩ hb
      | b :: l =>
        have hb2 := b.toNat_lt
        simp only [List.getD_cons_zero, List.getD_cons_succ, List.length_cons] at hd
        by_cases h2 : a.toNat / 32 = 6 ∧ (1 < l.length + 1 + 1 ∧ b.toNat / 64 = 2)
        · rw [if_pos h2] at hd
          split at hd
          · obtain ⟨rfl, rfl⟩ := Prod.mk.inj hd
            refine ⟨by omega, ?_, l, ?_⟩
            · unfold width
              rw [if_neg (by omega), if_pos (by omega)]
            · unfold enc
              rw [if_neg (by omega), if_pos (by omega), u8_of a _ (by omega), u8_of b _ (by omega)]
              rfl
          · obtain ⟨rfl, rfl⟩ := Prod.mk.inj hd
            exact absurd ⟨rfl, rfl⟩ hb
        · rw [if_neg h2] at hd
          match l with
          | [] =>
            rw [if_neg (by simp), if_neg (by simp)] at hd
            obtain ⟨rfl, rfl⟩ := Prod.mk.inj hd
            exact absurd ⟨rfl, rfl⟩ hb
          | d :: l =>
            have hd2 := d.toNat_lt
            simp only [List.getD_cons_zero, List.getD_cons_succ, List.length_cons] at hd
            by_cases h3 : a.toNat / 16 = 14 ∧ (1 < l.length + 1 + 1 + 1 ∧ b.toNat / 64 = 2) ∧ (2 < l.length + 1 + 1 + 1 ∧ d.toNat / 64 = 2)
            · rw [if_pos h3] at hd
              split at hd
              · obtain ⟨rfl, rfl⟩ := Prod.mk.inj hd
                refine ⟨by omega, ?_, l, ?_⟩
                · unfold width
                  rw [if_neg (by omega), if_neg (by omega), if_pos (by omega)]
                · unfold enc
                  rw [if_neg (by omega), if_neg (by omega), if_pos (by omega), u8_of a _ (by omega), u8_of b _ (by omega), u8_of d _ (by omega)]
                  rfl
              · obtain ⟨rfl, rfl⟩ := Prod.mk.inj hd
                exact absurd ⟨rfl, rfl⟩ hb
            · rw [if_neg h3] at hd
              match l with
              | [] =>
                rw [if_neg (by simp)] at hd
                obtain ⟨rfl, rfl⟩ := Prod.mk.inj hd
                exact absurd ⟨rfl, rfl⟩ hb
              | e :: l =>
                have he2 := e.toNat_lt
                simp only [List.getD_cons_zero, List.length_cons] at hd
                split at hd
                · split at hd
                  · obtain ⟨rfl, rfl⟩ := Prod.mk.inj hd
                    refine ⟨by omega, ?_, l, ?_⟩
                    · unfold width
                      rw [if_neg (by omega), if_neg (by omega), if_neg (by omega)]
                    · unfold enc
                      rw [if_neg (by omega), if_neg (by omega), if_neg (by omega), u8_of a _ (by omega), u8_of b _ (by omega), u8_of d _ (by omega), u8_of e _ (by omega)]
                      rfl
                  · obtain ⟨rfl, rfl⟩ := Prod.mk.inj hd
                    exact absurd ⟨rfl, rfl⟩ hb
                · obtain ⟨rfl, rfl⟩ := Prod.mk.inj hd
                  exact absurd ⟨rfl, rfl⟩ hb
end Go.Proofs.Ytaaoaikfkgbfhaa.Utf

namespace Go.Proofs.Ytaaoaikfkgbfhaa.Utf
open Go.RowKit Go.Proofs.YtaaoaikfkgbfhaaW.PrintWords Go.Proofs.Ytaaoaikfkgbfhaa.Bytes Go.Lib Go.Proofs.Ytaaoaikfkgbfhaa.H

theorem glyphWidth_eq (c : Nat) : glyphWidth (c : Int) = (width c : Int) := by
  unfold glyphWidth width
  by_cases h1 : c < 128
  · rw [if_pos (by omega), if_pos h1]; rfl
  · rw [if_neg (by omega), if_neg h1]
    by_cases h2 : c < 2048
    · rw [if_pos (by omega), if_pos h2]; rfl
    · rw [if_neg (by omega), if_neg h2]
      by_cases h3 : c < 65536
      · rw [if_pos (by omega), if_pos h3]; rfl
      · rw [if_neg (by omega), if_neg h3]; rfl
/-- what glyph.First answers -/
def firstAns (l : List UInt8) : Int × Int × Int := match sgn l with
  | some (c, n) => ((c : Int), (n : Int), 0)
  | none => (0, 0, 10)
theorem First_eq (s : ByteArray) : glyph_First.f s = some (firstAns (L s)) := by
  unfold glyph_First.f firstAns
  have hdec : Utf8.decode s 0 = decodeL (L s) := by
    have := decodeL_drop s 0
    rw [List.drop_zero] at this
    exact this.symm
  rw [hdec]
  by_cases h0 : s.size = 0
  · rw [if_pos h0]
    have : L s = [] := List.length_eq_zero_iff.mp h0
    rw [this]
    rfl
  · rw [if_neg h0]
    have hne : L s ≠ [] := fun h => h0 (by rw [size_L, h]; rfl)
    by_cases hb : (decodeL (L s)).1 = 65533 ∧ (decodeL (L s)).2 = 1
    · have hs : sgn (L s) = none := by unfold sgn; rw [if_neg hne, if_pos hb]
      rw [hs, if_pos]
      refine ⟨hb.1, ?_⟩
      by_cases h3 : s.size < 3
      · exact Or.inl h3
      · refine Or.inr fun he => ?_
        rw [toList_L, L_head] at he
        have hl : L s = enc 65533 ++ (L s).drop 3 := by
          have := List.take_append_drop 3 (L s)
          rw [he] at this
          exact this.symm
        have := sgn_enc 65533 (by decide) ((L s).drop 3)
        rw [← hl, hs] at this
        cases this
    · have hs : sgn (L s) = some (decodeL (L s)) := by unfold sgn; rw [if_neg hne, if_neg hb]
      obtain ⟨hsg, hw, t, ht⟩ := enc_sgn (c := (decodeL (L s)).1) (n := (decodeL (L s)).2) hs
      rw [hs, if_neg]
      · show some (((decodeL (L s)).1 : Int), glyphWidth ((decodeL (L s)).1 : Int), 0) = some (((decodeL (L s)).1 : Int), ((decodeL (L s)).2 : Int), 0)
        rw [glyphWidth_eq, ← hw]
      · rintro ⟨h1, h2⟩
        rw [h1] at ht
        have h3 : (L s).take 3 = [239, 191, 189] := by rw [ht]; rfl
        rcases h2 with h2 | h2
        · have := congrArg List.length h3
          rw [List.length_take] at this
          have e : (L s).length = s.size := rfl
          simp only [List.length_cons, List.length_nil] at this
          omega
        · exact h2 (by rw [toList_L, L_head]; exact h3)

def Plain (c : Nat) : Prop := c = 9 ∨ c = 10 ∨ c = 13 ∨ (32 ≤ c ∧ c ≠ 65534 ∧ c ≠ 65535)
instance (c : Nat) : Decidable (Plain c) := inferInstanceAs (Decidable (_ ∨ _))
/-- these bytes are these signs', one behind the other; all are plain -/
def Text : List Nat → List UInt8 → Prop
  | [], l => l = []
  | c :: cs, l => ∃ t, l = enc c ++ t ∧ Sign c ∧ Plain c ∧ Text cs t
theorem Text.one {cs ds : List Nat} : ∀ {l : List UInt8}, Text cs l → Text ds l → cs = ds := by
  induction cs generalizing ds with
  | nil =>
    intro l h g
    have h : l = [] := h
    subst h
    cases ds with
    | nil => rfl
    | cons d ds =>
      obtain ⟨t, e, _⟩ := g
      have := congrArg List.length e
      rw [List.length_append, enc_length] at this
      have := width_pos d
      simp at *
      omega
  | cons c cs ih =>
    intro l h g
    obtain ⟨t, rfl, hs, hp, ht⟩ := h
    cases ds with
    | nil =>
      have g : enc c ++ t = [] := g
      have := congrArg List.length g
      rw [List.length_append, enc_length] at this
      have := width_pos c
      simp at *
      omega
    | cons d ds =>
      obtain ⟨u, e, hs', hp', hu⟩ := g
      have h1 := sgn_enc c hs t
      rw [e, sgn_enc d hs' u] at h1
      obtain ⟨rfl, _⟩ := Prod.mk.inj (Option.some.inj h1)
      have htu : t = u := List.append_cancel_left e
      subst htu
      rw [ih ht hu]
theorem Text.append {cs ds : List Nat} : ∀ {l m : List UInt8}, Text cs l → Text ds m → Text (cs ++ ds) (l ++ m) := by
  induction cs with
  | nil =>
    intro l m h g
    have h : l = [] := h
    subst h
    exact g
  | cons c cs ih =>
    intro l m h g
    obtain ⟨t, rfl, hs, hp, ht⟩ := h
    exact ⟨t ++ m, by rw [List.append_assoc], hs, hp, ih ht g⟩
theorem Text.length {cs : List Nat} : ∀ {l : List UInt8}, Text cs l → cs.length ≤ l.length := by
  induction cs with
  | nil => intro l _; simp
  | cons c cs ih =>
    intro l h
    obtain ⟨t, rfl, _, _, ht⟩ := h
    have := ih ht
    have := width_pos c
    rw [List.length_append, enc_length, List.length_cons]
    omega
theorem no_text {l : List UInt8} (h : ¬ ∃ cs, Text cs l) : l ≠ [] ∧ (sgn l = none ∨ ∃ c t, sgn l = some (c, width c) ∧ l = enc c ++ t ∧ Sign c ∧ (¬ Plain c ∨ (Plain c ∧ ¬ ∃ cs, Text cs t))) := by
  refine ⟨fun e => h ⟨[], e⟩, ?_⟩
  cases hs : sgn l with
  | none => exact Or.inl rfl
  | some p =>
    obtain ⟨c, n⟩ := p
    obtain ⟨hc, hn, t, ht⟩ := enc_sgn hs
    refine Or.inr ⟨c, t, by rw [hn], ht, hc, ?_⟩
    by_cases hp : Plain c
    · exact Or.inr ⟨hp, fun ⟨cs, hcs⟩ => h ⟨c :: cs, t, ht, hc, hp, hcs⟩⟩
    · exact Or.inl hp
theorem tail_of {s : ByteArray} {c : Nat} {t : List UInt8} (h : L s = enc c ++ t) : L (s.extract (width c) s.size) = t := by
  rw [L_tail, h, List.drop_append_of_le_length (by rw [enc_length]; omega), List.drop_of_length_le (by rw [enc_length]; omega), List.nil_append]
end Go.Proofs.Ytaaoaikfkgbfhaa.Utf

namespace Go.Proofs.Ytaaoaikfkgbfhaa.Utf
open Go.RowKit Go.Proofs.YtaaoaikfkgbfhaaW.PrintWords Go.Proofs.Ytaaoaikfkgbfhaa.Bytes Go.Lib Go.Proofs.Ytaaoaikfkgbfhaa.H

theorem tdiv_nat (n m : Nat) : Int.tdiv (n : Int) (m : Int) = ((n / m : Nat) : Int) := by
  rw [Int.tdiv_eq_ediv_of_nonneg (by omega)]; rfl
theorem tmod_nat (n m : Nat) : Int.tmod (n : Int) (m : Int) = ((n % m : Nat) : Int) := by
  rw [Int.tmod_eq_emod_of_nonneg (by omega)]; rfl
theorem ofi {x : Int} (y : Nat) (h : x = (y : Int)) : UInt8.ofNat x.toNat = UInt8.ofNat y := by rw [h]; rfl
theorem w1 (k : Int) (m : Nat) (h0 : 0 ≤ k) (h : k + m < 256) : (wrap64 (k + wrap64 (m : Int))) % 256 = k + (m : Int) := by
  rw [wrap_id (m : Int) (by omega) (by omega), wrap_id _ (by omega) (by omega)]
  omega
theorem w2 (k : Int) (m : Nat) (h0 : 0 ≤ k) (h : k + m < 256) : (wrap64 (k + (m : Int))) % 256 = k + (m : Int) := by
  rw [wrap_id _ (by omega) (by omega)]
  omega
theorem vdiv (n m : Nat) (h : n ≤ 1114111) : wrap64 ((n / m : Nat) : Int) = ((n / m : Nat) : Int) := by
  have h1 : n / m ≤ 1114111 := Nat.le_trans (Nat.div_le_self n m) h
  generalize n / m = q at h1 ⊢
  exact wrap_id _ (by omega) (by omega)
theorem z64_ (n : Nat) : (wrap64 (128 + ((n % 64 : Nat) : Int))) % 256 = 128 + ((n % 64 : Nat) : Int) := w2 128 (n % 64) (by omega) (by omega)
theorem xdiv (k : Int) (n m : Nat) (h0 : 0 ≤ k) (h : k + ((n / m : Nat) : Int) < 256) : (wrap64 (k + wrap64 ((n / m : Nat) : Int))) % 256 = k + ((n / m : Nat) : Int) := w1 k (n / m) h0 h
theorem refPut_eq (c : Int) : wharfref01_Put.f c = some (if 0 ≤ c ∧ Sign c.toNat then (Utf8.encode c, 0) else (⟨#[]⟩, 10)) := by
  unfold wharfref01_Put.f wharfref01_Is.f
  by_cases h : 0 ≤ c ∧ Sign c.toNat
  · obtain ⟨n, rfl⟩ : ∃ n : Nat, c = (n : Int) := ⟨c.toNat, by omega⟩
    obtain ⟨_, hs⟩ := h
    rw [Int.toNat_natCast] at hs
    have hs' := hs
    unfold Sign at hs'
    have his : (if (n : Int) ≥ 0 then (if (n : Int) ≤ 1114111 then (if (n : Int) < 55296 then some true else some (decide ((n : Int) > 57343))) else some false) else some false) = some true := by
      rw [if_pos (by omega), if_pos (by omega)]
      split
      · rfl
      · rw [decide_eq_true (by omega)]
    rw [his]
    simp only [Option.bind_some, if_true]
    have hr : (if 0 ≤ (n : Int) ∧ Sign (n : Int).toNat then (Utf8.encode (n : Int), (0 : Int)) else (⟨#[]⟩, 10)) = (Utf8.encode (n : Int), 0) := if_pos ⟨by omega, by rwa [Int.toNat_natCast]⟩
    rw [hr]
    have e := enc_encode n hs
    have fin : ∀ x : ByteArray, L x = enc n → some (x, (0 : Int)) = some (Utf8.encode (n : Int), 0) := fun x hx => by
      rw [L_inj (hx.trans e.symm)]
    have hn : n ≤ 1114111 := by omega
    have x64 : n < 2048 → (192 : Int) + ((n / 64 : Nat) : Int) < 256 := fun h => by omega
    have x4096 : n < 65536 → (224 : Int) + ((n / 4096 : Nat) : Int) < 256 := fun h => by omega
    have x262144 : (240 : Int) + ((n / 262144 : Nat) : Int) < 256 := by omega
    have p1 : ((n : Int) < 128) ↔ n < 128 := by omega
    have p2 : ((n : Int) < 2048) ↔ n < 2048 := by omega
    have p3 : ((n : Int) < 65536) ↔ n < 65536 := by omega
    have t64 : Int.tdiv (n : Int) 64 = ((n / 64 : Nat) : Int) := tdiv_nat n 64
    have t4096 : Int.tdiv (n : Int) 4096 = ((n / 4096 : Nat) : Int) := tdiv_nat n 4096
    have t262144 : Int.tdiv (n : Int) 262144 = ((n / 262144 : Nat) : Int) := tdiv_nat n 262144
    have m64 : Int.tmod (n : Int) 64 = ((n % 64 : Nat) : Int) := tmod_nat n 64
    have q64 : Int.tmod ((n / 64 : Nat) : Int) 64 = ((n / 64 % 64 : Nat) : Int) := tmod_nat (n / 64) 64
    have q4096 : Int.tmod ((n / 4096 : Nat) : Int) 64 = ((n / 4096 % 64 : Nat) : Int) := tmod_nat (n / 4096) 64
    have v64 := vdiv n 64 hn
    have v4096 := vdiv n 4096 hn
    have z64 := z64_ n
    have y64 := z64_ (n / 64)
    have y4096 := z64_ (n / 4096)
    by_cases h1 : n < 128
    · rw [if_pos (p1.mpr h1)]
      apply fin
      unfold enc
      rw [if_pos h1, L_nums]
      simp only [List.map_cons, List.map_nil]
      rw [ofi n (Int.emod_eq_of_lt (Int.natCast_nonneg n) (Int.lt_trans (p1.mpr h1) (by decide)))]
    · rw [if_neg (fun h => h1 (p1.mp h))]
      by_cases h2 : n < 2048
      · rw [if_pos (p2.mpr h2)]
        apply fin
        unfold enc
        rw [if_neg h1, if_pos h2, L_nums, t64, m64, xdiv 192 n 64 (by decide) (x64 h2), z64]
        rfl
      · rw [if_neg (fun h => h2 (p2.mp h))]
        by_cases h3 : n < 65536
        · rw [if_pos (p3.mpr h3)]
          apply fin
          unfold enc
          rw [if_neg h1, if_neg h2, if_pos h3, L_nums, t64, m64, t4096, xdiv 224 n 4096 (by decide) (x4096 h3), v64, q64, y64, z64]
          rfl
        · rw [if_neg (fun h => h3 (p3.mp h))]
          apply fin
          unfold enc
          rw [if_neg h1, if_neg h2, if_neg h3, L_nums, t64, m64, t4096, t262144, xdiv 240 n 262144 (by decide) x262144, v64, v4096, q64, q4096, y64, y4096, z64]
          rfl
  · rw [if_neg h]
    have hn : (if c ≥ 0 then (if c ≤ 1114111 then (if c < 55296 then some true else some (decide (c > 57343))) else some false) else some false) = some false := by
      unfold Sign at h
      by_cases h0 : c ≥ 0
      · rw [if_pos h0]
        by_cases h1 : c ≤ 1114111
        · rw [if_pos h1, if_neg (by omega), decide_eq_false (by omega)]
        · rw [if_neg h1]
      · rw [if_neg h0]
    rw [hn]
    rfl
/-- the end of the reference's reading: c is the sign, n its bytes -/
def refEnd (s : ByteArray) (n : Nat) (c : Int) : Int × Int × Int := if 0 ≤ c ∧ Sign c.toNat ∧ enc c.toNat = (L s).take n then (c, (n : Int), 0) else (0, 0, 10)
theorem ref_end (s : ByteArray) (n : Nat) (c : Int) (k : Nat) (h : n ≤ s.size) : wharfref01_First.l0 (k + 1) s (n : Int) c (n : Int) = some (refEnd s n c) := by
  simp only [wharfref01_First.l0]
  rw [if_neg (by omega), refPut_eq]
  unfold refEnd
  by_cases hs : 0 ≤ c ∧ Sign c.toNat
  · rw [if_pos hs]
    simp only [Option.bind_some, if_true]
    obtain ⟨m, rfl⟩ : ∃ m : Nat, c = (m : Int) := ⟨c.toNat, by omega⟩
    have he := enc_encode m (by simpa using hs.2)
    rw [if_pos (by omega), if_pos (by omega), toList_L, toList_L, L_head, he, Int.toNat_natCast, Int.toNat_natCast]
    by_cases heq : enc m = (L s).take n
    · rw [if_pos heq, if_pos ⟨by omega, by simpa using hs.2, heq⟩]
    · rw [if_neg heq, if_neg (fun h => heq h.2.2)]
  · rw [if_neg hs, if_neg (fun h => hs ⟨h.1, h.2.1⟩)]
    rfl
theorem ref_step (s : ByteArray) (n i : Nat) (c : Int) (k : Nat) (h : i < n) (hi : i < s.size) (hn : n ≤ 8) (c0 : 0 ≤ c) (c1 : c ≤ 1000000000) : wharfref01_First.l0 (k + 1) s (n : Int) c (i : Int) =
    if bt s (i : Int) / 64 = 2 then wharfref01_First.l0 k s (n : Int) (64 * c + bt s (i : Int) - 128) ((i + 1 : Nat) : Int) else some (0, 0, 10) := by
  have hb := bt_range s (i : Int)
  simp only [wharfref01_First.l0]
  rw [if_pos (by omega), if_pos (by omega), if_pos (by omega)]
  by_cases h1 : bt s (i : Int) < 128
  · rw [if_pos h1, if_neg (by omega)]
  · rw [if_neg h1]
    by_cases h2 : bt s (i : Int) ≥ 192
    · rw [if_pos h2, if_neg (by omega)]
    · rw [if_neg h2, if_pos (by omega), wrap_id (64 * c) (by omega) (by omega), wrap_id (bt s (i : Int)) (by omega) (by omega), wrap_id (64 * c + bt s (i : Int)) (by omega) (by omega), wrap_id _ (by omega) (by omega), wrap_id ((i : Int) + 1) (by omega) (by omega)]
      rfl
theorem byteAt (s : ByteArray) (l : List UInt8) (hl : L s = l) (i : Nat) : bt s (i : Int) = ((l.getD i 0).toNat : Int) := by
  rw [bt_L, hl, Int.toNat_natCast]
theorem refEnd_nat (s : ByteArray) (n c : Nat) (x : Int) (hx : x = (c : Int)) : refEnd s n x = if Sign c ∧ enc c = (L s).take n then ((c : Int), (n : Int), 0) else (0, 0, 10) := by
  subst hx
  unfold refEnd
  rw [Int.toNat_natCast]
  by_cases h : Sign c ∧ enc c = (L s).take n
  · rw [if_pos ⟨by omega, h⟩, if_pos h]
  · rw [if_neg (fun g => h g.2), if_neg h]
theorem enc2 (a b : UInt8) (h1 : 192 ≤ a.toNat) (h2 : a.toNat < 224) (hb : b.toNat / 64 = 2) : (Sign ((a.toNat - 192) * 64 + (b.toNat - 128)) ∧ enc ((a.toNat - 192) * 64 + (b.toNat - 128)) = [a, b]) ↔ 128 ≤ (a.toNat - 192) * 64 + (b.toNat - 128) := by
  generalize hc : (a.toNat - 192) * 64 + (b.toNat - 128) = c
  constructor
  · rintro ⟨_, h⟩
    rcases Nat.lt_or_ge c 128 with hlt | hge
    · have := congrArg List.length h
      rw [enc_length] at this
      simp [width, hlt] at this
    · exact hge
  · intro h
    refine ⟨Or.inl (by omega), ?_⟩
    unfold enc
    rw [if_neg (by omega), if_pos (by omega), u8_of a _ (by omega), u8_of b _ (by omega)]
theorem enc3 (a b d : UInt8) (h1 : 224 ≤ a.toNat) (h2 : a.toNat < 240) (hb : b.toNat / 64 = 2) (hd : d.toNat / 64 = 2) : (Sign ((a.toNat - 224) * 4096 + (b.toNat - 128) * 64 + (d.toNat - 128)) ∧ enc ((a.toNat - 224) * 4096 + (b.toNat - 128) * 64 + (d.toNat - 128)) = [a, b, d]) ↔
    2048 ≤ (a.toNat - 224) * 4096 + (b.toNat - 128) * 64 + (d.toNat - 128) ∧ Sign ((a.toNat - 224) * 4096 + (b.toNat - 128) * 64 + (d.toNat - 128)) := by
  generalize hc : (a.toNat - 224) * 4096 + (b.toNat - 128) * 64 + (d.toNat - 128) = c
  constructor
  · rintro ⟨hs, h⟩
    refine ⟨?_, hs⟩
    rcases Nat.lt_or_ge c 2048 with hlt | hge
    · have := congrArg List.length h
      rw [enc_length] at this
      unfold width at this
      split at this
      · cases this
      · cases this
    · exact hge
  · rintro ⟨h, hs⟩
    refine ⟨hs, ?_⟩
    unfold enc
    rw [if_neg (by omega), if_neg (by omega), if_pos (by omega), u8_of a _ (by omega), u8_of b _ (by omega), u8_of d _ (by omega)]
theorem enc4 (a b d e : UInt8) (h1 : 240 ≤ a.toNat) (h2 : a.toNat < 248) (hb : b.toNat / 64 = 2) (hd : d.toNat / 64 = 2) (he : e.toNat / 64 = 2) :
    (Sign ((a.toNat - 240) * 262144 + (b.toNat - 128) * 4096 + (d.toNat - 128) * 64 + (e.toNat - 128)) ∧ enc ((a.toNat - 240) * 262144 + (b.toNat - 128) * 4096 + (d.toNat - 128) * 64 + (e.toNat - 128)) = [a, b, d, e]) ↔
    65536 ≤ (a.toNat - 240) * 262144 + (b.toNat - 128) * 4096 + (d.toNat - 128) * 64 + (e.toNat - 128) ∧ Sign ((a.toNat - 240) * 262144 + (b.toNat - 128) * 4096 + (d.toNat - 128) * 64 + (e.toNat - 128)) := by
  generalize hc : (a.toNat - 240) * 262144 + (b.toNat - 128) * 4096 + (d.toNat - 128) * 64 + (e.toNat - 128) = c
  constructor
  · rintro ⟨hs, h⟩
    refine ⟨?_, hs⟩
    rcases Nat.lt_or_ge c 65536 with hlt | hge
    · have := congrArg List.length h
      rw [enc_length] at this
      unfold width at this
      split at this
      · cases this
      · split at this
        · cases this
        · cases this
    · exact hge
  · rintro ⟨h, hs⟩
    refine ⟨hs, ?_⟩
    unfold enc
    rw [if_neg (by omega), if_neg (by omega), if_neg (by omega), u8_of a _ (by omega), u8_of b _ (by omega), u8_of d _ (by omega), u8_of e _ (by omega)]
/-- the answer, out of what was decoded -/
def ans (p : Nat × Nat) : Int × Int × Int := if p.1 = 65533 ∧ p.2 = 1 then (0, 0, 10) else ((p.1 : Int), (p.2 : Int), 0)
theorem ans_bad : ans (65533, 1) = (0, 0, 10) := rfl
theorem ans_ok (c n : Nat) (h : n ≠ 1) : ans (c, n) = ((c : Int), (n : Int), 0) := by
  unfold ans
  rw [if_neg (fun g => h g.2)]
theorem j2_short (s : ByteArray) (n : Nat) (c : Int) (k : Nat) (h : s.size < n) : wharfref01_First.j2 (k + 1) s (n : Int) c = some (0, 0, 10) := by
  simp only [wharfref01_First.j2]
  rw [if_pos (by omega)]
theorem j2_long (s : ByteArray) (n : Nat) (c : Int) (k : Nat) (h : n ≤ s.size) : wharfref01_First.j2 (k + 1) s (n : Int) c = wharfref01_First.l0 k s (n : Int) c ((1 : Nat) : Int) := by
  simp only [wharfref01_First.j2]
  rw [if_neg (by omega)]
  rfl
theorem class1 (s : ByteArray) (a : UInt8) (l : List UInt8) (hl : L s = a :: l) (k : Nat) (h1 : a.toNat < 128) (b1 b2 b3 : Nat) : wharfref01_First.j2 (k + 2) s 1 (a.toNat : Int) = some (ans (decodeN (l.length + 1) a.toNat b1 b2 b3)) := by
  have hsz : s.size = l.length + 1 := by rw [size_L, hl]; rfl
  have e := j2_long s 1 (a.toNat : Int) (k + 1) (by omega)
  rw [show ((1 : Nat) : Int) = 1 from rfl] at e
  rw [e, show (1 : Int) = ((1 : Nat) : Int) from rfl, ref_end s 1 _ k (by omega), refEnd_nat s 1 a.toNat _ rfl]
  have he : enc a.toNat = [a] := by unfold enc; rw [if_pos h1, u8_of a _ rfl]
  rw [if_pos ⟨Or.inl (by omega), by rw [he, hl]; rfl⟩]
  unfold decodeN
  rw [if_pos h1]
  unfold ans
  rw [if_neg (by simp; omega)]
theorem class2 (s : ByteArray) (a : UInt8) (l : List UInt8) (hl : L s = a :: l) (k : Nat) (h1 : 192 ≤ a.toNat) (h2 : a.toNat < 224) : wharfref01_First.j2 (k + 4) s 2 ((a.toNat : Int) - 192) = some (ans (decodeN (l.length + 1) a.toNat (l.getD 0 0).toNat (l.getD 1 0).toNat (l.getD 2 0).toNat)) := by
  have hsz : s.size = l.length + 1 := by rw [size_L, hl]; rfl
  have hb := byteAt s _ hl
  rw [show (2 : Int) = ((2 : Nat) : Int) from rfl]
  unfold decodeN
  rw [if_neg (by omega)]
  match l with
  | [] =>
    rw [j2_short _ _ _ _ (by simp at hsz; omega), if_neg (by simp), if_neg (by simp), if_neg (by simp)]
    rfl
  | b :: l =>
    have hb1 : bt s ((1 : Nat) : Int) = (b.toNat : Int) := hb 1
    have := b.toNat_lt
    rw [List.length_cons] at hsz
    rw [j2_long _ _ _ _ (by omega), ref_step s 2 1 _ (k + 2) (by omega) (by omega) (by omega) (by omega) (by omega), hb1, List.getD_cons_zero, List.length_cons]
    by_cases hc : b.toNat / 64 = 2
    · rw [if_pos (by omega), if_pos ⟨by omega, by omega, hc⟩]
      rw [ref_end s 2 _ (k + 1) (by omega), refEnd_nat s 2 ((a.toNat - 192) * 64 + (b.toNat - 128)) _ (by omega), hl, show List.take 2 (a :: b :: l) = [a, b] from rfl]
      have e2 := enc2 a b h1 h2 hc
      have ee : a.toNat % 32 * 64 + b.toNat % 64 = (a.toNat - 192) * 64 + (b.toNat - 128) := by omega
      rw [ee]
      by_cases hg : 128 ≤ (a.toNat - 192) * 64 + (b.toNat - 128)
      · rw [if_pos (e2.mpr hg), if_pos hg, ans_ok _ _ (by decide)]
      · rw [if_neg (fun h => hg (e2.mp h)), if_neg hg]
        rfl
    · rw [if_neg (by omega), if_neg (fun h => hc h.2.2), if_neg (by omega), if_neg (by omega)]
      rfl
theorem class3 (s : ByteArray) (a : UInt8) (l : List UInt8) (hl : L s = a :: l) (k : Nat) (h1 : 224 ≤ a.toNat) (h2 : a.toNat < 240) : wharfref01_First.j2 (k + 4) s 3 ((a.toNat : Int) - 224) = some (ans (decodeN (l.length + 1) a.toNat (l.getD 0 0).toNat (l.getD 1 0).toNat (l.getD 2 0).toNat)) := by
  have hsz : s.size = l.length + 1 := by rw [size_L, hl]; rfl
  have hb := byteAt s _ hl
  rw [show (3 : Int) = ((3 : Nat) : Int) from rfl]
  unfold decodeN
  rw [if_neg (by omega), if_neg (by omega)]
  match l with
  | [] =>
    rw [j2_short _ _ _ _ (by simp at hsz; omega), if_neg (by simp), if_neg (by simp)]
    rfl
  | [b] =>
    rw [j2_short _ _ _ _ (by simp at hsz; omega), if_neg (by simp), if_neg (by simp)]
    rfl
  | b :: d :: l =>
    have hb1 : bt s ((1 : Nat) : Int) = (b.toNat : Int) := hb 1
    have hb2 : bt s ((2 : Nat) : Int) = (d.toNat : Int) := hb 2
    have := b.toNat_lt
    have := d.toNat_lt
    rw [List.length_cons, List.length_cons] at hsz
    rw [j2_long _ _ _ _ (by omega), ref_step s 3 1 _ (k + 2) (by omega) (by omega) (by omega) (by omega) (by omega), hb1, List.getD_cons_zero, List.getD_cons_succ, List.getD_cons_zero, List.length_cons, List.length_cons]
    by_cases hc : b.toNat / 64 = 2
    · rw [if_pos (by omega)]
      rw [show ((1 + 1 : Nat) : Int) = ((2 : Nat) : Int) from rfl, ref_step s 3 2 _ (k + 1) (by omega) (by omega) (by omega) (by omega) (by omega), hb2]
      by_cases hd : d.toNat / 64 = 2
      · rw [if_pos (by omega), if_pos ⟨by omega, ⟨by omega, hc⟩, by omega, hd⟩]
        rw [show ((2 + 1 : Nat) : Int) = ((3 : Nat) : Int) from rfl, ref_end s 3 _ k (by omega), refEnd_nat s 3 ((a.toNat - 224) * 4096 + (b.toNat - 128) * 64 + (d.toNat - 128)) _ (by omega), hl, show List.take 3 (a :: b :: d :: l) = [a, b, d] from rfl]
        have e3 := enc3 a b d h1 h2 hc hd
        have ee : a.toNat % 16 * 4096 + b.toNat % 64 * 64 + d.toNat % 64 = (a.toNat - 224) * 4096 + (b.toNat - 128) * 64 + (d.toNat - 128) := by omega
        rw [ee]
        generalize (a.toNat - 224) * 4096 + (b.toNat - 128) * 64 + (d.toNat - 128) = c at e3 ⊢
        by_cases hg : c ≥ 2048 ∧ (c < 55296 ∨ 57344 ≤ c ∧ c ≤ 1114111)
        · rw [if_pos (e3.mpr hg), if_pos hg, ans_ok _ _ (by decide)]
        · rw [if_neg (fun h => hg (e3.mp h)), if_neg hg]
          rfl
      · rw [if_neg (by omega), if_neg (fun h => hd h.2.2.2), if_neg (by omega)]
        rfl
    · rw [if_neg (by omega), if_neg (fun h => hc h.2.1.2), if_neg (by omega)]
      rfl
theorem class4 (s : ByteArray) (a : UInt8) (l : List UInt8) (hl : L s = a :: l) (k : Nat) (h1 : 240 ≤ a.toNat) (h2 : a.toNat < 248) : wharfref01_First.j2 (k + 5) s 4 ((a.toNat : Int) - 240) = some (ans (decodeN (l.length + 1) a.toNat (l.getD 0 0).toNat (l.getD 1 0).toNat (l.getD 2 0).toNat)) := by
  have hsz : s.size = l.length + 1 := by rw [size_L, hl]; rfl
  have hb := byteAt s _ hl
  rw [show (4 : Int) = ((4 : Nat) : Int) from rfl]
  unfold decodeN
  rw [if_neg (by omega), if_neg (by omega), if_neg (by omega)]
  match l with
  | [] =>
    rw [j2_short _ _ _ _ (by simp at hsz; omega), if_neg (by simp)]
    rfl
  | [b] =>
    rw [j2_short _ _ _ _ (by simp at hsz; omega), if_neg (by simp)]
    rfl
  | [b, d] =>
    rw [j2_short _ _ _ _ (by simp at hsz; omega), if_neg (by simp)]
    rfl
  | b :: d :: e :: l =>
    have hb1 : bt s ((1 : Nat) : Int) = (b.toNat : Int) := hb 1
    have hb2 : bt s ((2 : Nat) : Int) = (d.toNat : Int) := hb 2
    have hb3 : bt s ((3 : Nat) : Int) = (e.toNat : Int) := hb 3
    have := b.toNat_lt
    have := d.toNat_lt
    have := e.toNat_lt
    rw [List.length_cons, List.length_cons, List.length_cons] at hsz
    rw [j2_long _ _ _ _ (by omega), ref_step s 4 1 _ (k + 3) (by omega) (by omega) (by omega) (by omega) (by omega), hb1, List.getD_cons_zero, List.getD_cons_succ, List.getD_cons_zero, List.getD_cons_succ, List.getD_cons_succ, List.getD_cons_zero, List.length_cons, List.length_cons, List.length_cons]
    by_cases hc : b.toNat / 64 = 2
    · rw [if_pos (by omega)]
      rw [show ((1 + 1 : Nat) : Int) = ((2 : Nat) : Int) from rfl, ref_step s 4 2 _ (k + 2) (by omega) (by omega) (by omega) (by omega) (by omega), hb2]
      by_cases hd : d.toNat / 64 = 2
      · rw [if_pos (by omega)]
        rw [show ((2 + 1 : Nat) : Int) = ((3 : Nat) : Int) from rfl, ref_step s 4 3 _ (k + 1) (by omega) (by omega) (by omega) (by omega) (by omega), hb3]
        by_cases he : e.toNat / 64 = 2
        · rw [if_pos (by omega), if_pos ⟨by omega, ⟨by omega, hc⟩, ⟨by omega, hd⟩, by omega, he⟩]
          rw [show ((3 + 1 : Nat) : Int) = ((4 : Nat) : Int) from rfl, ref_end s 4 _ k (by omega), refEnd_nat s 4 ((a.toNat - 240) * 262144 + (b.toNat - 128) * 4096 + (d.toNat - 128) * 64 + (e.toNat - 128)) _ (by omega), hl, show List.take 4 (a :: b :: d :: e :: l) = [a, b, d, e] from rfl]
          have e4 := enc4 a b d e h1 h2 hc hd he
          have ee : a.toNat % 8 * 262144 + b.toNat % 64 * 4096 + d.toNat % 64 * 64 + e.toNat % 64 = (a.toNat - 240) * 262144 + (b.toNat - 128) * 4096 + (d.toNat - 128) * 64 + (e.toNat - 128) := by omega
          rw [ee]
          generalize (a.toNat - 240) * 262144 + (b.toNat - 128) * 4096 + (d.toNat - 128) * 64 + (e.toNat - 128) = c at e4 ⊢
          by_cases hg : c ≥ 65536 ∧ (c < 55296 ∨ 57344 ≤ c ∧ c ≤ 1114111)
          · rw [if_pos (e4.mpr hg), if_pos hg, ans_ok _ _ (by decide)]
          · rw [if_neg (fun h => hg (e4.mp h)), if_neg hg]
            rfl
        · rw [if_neg (by omega), if_neg (fun h => he h.2.2.2.2)]
          rfl
      · rw [if_neg (by omega), if_neg (fun h => hd h.2.2.1.2)]
        rfl
    · rw [if_neg (by omega), if_neg (fun h => hc h.2.1.2)]
      rfl
/-- the reference's First is the sign at the front. -/
theorem refFirst_eq (s : ByteArray) (k : Nat) (hk : 12 ≤ k) : wharfref01_First.f k s = some (firstAns (L s)) := by
  obtain ⟨k, rfl⟩ : ∃ m, k = m + 12 := ⟨k - 12, by omega⟩
  unfold wharfref01_First.f
  rw [toList_L]
  match hl : L s with
  | [] => rw [if_pos rfl]; rfl
  | a :: l =>
    have ha := a.toNat_lt
    have hsz : s.size = l.length + 1 := by rw [size_L, hl]; rfl
    have h0 : bt s 0 = (a.toNat : Int) := byteAt s _ hl 0
    have hw : wrap64 (a.toNat : Int) = (a.toNat : Int) := wrap_id _ (by omega) (by omega)
    rw [if_neg (by simp), if_pos (by omega), h0, hw]
    have hfa : firstAns (a :: l) = ans (decodeN (l.length + 1) a.toNat (l.getD 0 0).toNat (l.getD 1 0).toNat (l.getD 2 0).toNat) := by
      have e := decodeL_N (a :: l)
      rw [List.getD_cons_zero, List.getD_cons_succ, List.getD_cons_succ, List.getD_cons_succ, List.length_cons] at e
      rw [← e]
      unfold firstAns sgn ans
      rw [if_neg (by simp)]
      by_cases hc : (decodeL (a :: l)).1 = 65533 ∧ (decodeL (a :: l)).2 = 1
      · rw [if_pos hc, if_pos hc]
      · rw [if_neg hc, if_neg hc]
    rw [hfa]
    by_cases h1 : a.toNat < 128
    · rw [if_pos (by omega)]
      exact class1 s a l hl (k + 10) h1 _ _ _
    · rw [if_neg (by omega)]
      have bad : a.toNat < 192 ∨ 248 ≤ a.toNat → ans (decodeN (l.length + 1) a.toNat (l.getD 0 0).toNat (l.getD 1 0).toNat (l.getD 2 0).toNat) = (0, 0, 10) := by
        intro h
        unfold decodeN
        rw [if_neg (by omega), if_neg (by omega), if_neg (by omega), if_neg (by omega)]
        rfl
      by_cases h2 : a.toNat < 192
      · rw [if_neg (by omega), bad (Or.inl h2)]
        simp only [wharfref01_First.j0]
        rw [if_neg (by decide), if_neg (by omega)]
        simp only [wharfref01_First.j1]
        rw [if_neg (by decide), if_neg (by omega)]
      · rw [if_pos (by omega)]
        simp only [wharfref01_First.j0]
        by_cases h3 : a.toNat < 224
        · rw [decide_eq_true (by omega), if_pos rfl, wrap_id ((a.toNat : Int) - 192) (by omega) (by omega)]
          exact class2 s a l hl (k + 7) (by omega) h3
        · rw [decide_eq_false (by omega), if_neg (by decide), if_pos (by omega)]
          simp only [wharfref01_First.j1]
          by_cases h4 : a.toNat < 240
          · rw [decide_eq_true (by omega), if_pos rfl, wrap_id ((a.toNat : Int) - 224) (by omega) (by omega)]
            exact class3 s a l hl (k + 6) (by omega) h4
          · rw [decide_eq_false (by omega), if_neg (by decide), if_pos (by omega)]
            by_cases h5 : a.toNat < 248
            · rw [if_pos (by omega), wrap_id ((a.toNat : Int) - 240) (by omega) (by omega)]
              exact class4 s a l hl (k + 5) (by omega) h5
            · rw [if_neg (by omega), bad (Or.inr (by omega))]
end Go.Proofs.Ytaaoaikfkgbfhaa.Utf

namespace Go.Proofs.Ytaaoaikfkgbfhaa.Shade
open Go.RowKit Go.Proofs.YtaaoaikfkgbfhaaW.PrintWords Go.Proofs.Ytaaoaikfkgbfhaa.H

theorem live (k : Nat) (hk : 64 ≤ k) : wharflaw16_live.f k = some true :=
  at_rounds (g := fun k => wharflaw16_live.f k) (fun k => wharflaw16_live.mono k) hk (by decide +kernel)
theorem wid (a : Int) (h0 : -9223372036854775808 ≤ a) (h1 : a < 9223372036854775808) : wrap64 a = a := by unfold wrap64; omega
theorem and_nat (x m : Nat) (hx : x < 9223372036854775808) (hm : m < 9223372036854775808) : Go.bits .and .i64 (x : Int) (m : Int) = ((x &&& m : Nat) : Int) := by
  have e : ∀ n : Nat, n < 9223372036854775808 → (BitVec.ofInt 64 (n : Int)).toNat = n := by
    intro n hn
    rw [BitVec.toNat_ofInt]
    omega
  show IntKind.i64.wrap ((BitVec.ofInt 64 (x : Int) &&& BitVec.ofInt 64 (m : Int)).toNat : Nat) = _
  rw [BitVec.toNat_and, e x hx, e m hm, IntKind.wrap_i64]
  have : x &&& m ≤ m := Nat.and_le_right
  omega
theorem and_bit (x i : Nat) : (x &&& 2 ^ i = 0) ↔ x / 2 ^ i % 2 = 0 := by
  have ht : x.testBit i = decide (x / 2 ^ i % 2 = 1) := Nat.testBit_eq_decide_div_mod_eq
  constructor
  · intro h
    have h2 := congrArg (fun y => Nat.testBit y i) h
    simp only [Nat.testBit_and, Nat.testBit_two_pow_self, Bool.and_true, Nat.zero_testBit, ht, decide_eq_false_iff_not] at h2
    omega
  · intro h
    apply Nat.eq_of_testBit_eq
    intro j
    rw [Nat.testBit_and, Nat.zero_testBit, Nat.testBit_two_pow]
    by_cases hj : i = j
    · subst hj
      rw [ht, decide_eq_false (by omega)]
      rfl
    · rw [decide_eq_false hj, Bool.and_false]
theorem bit1 (x : Int) (h0 : 0 ≤ x) (h1 : x < 9223372036854775808) : ((Go.bits .and .i64 x 256 = 0) ↔ x / 256 % 2 = 0) ∧ ((Go.bits .and .i64 x 4 = 0) ↔ x / 4 % 2 = 0) ∧ ((Go.bits .and .i64 x 1 = 0) ↔ x % 2 = 0) ∧ ((Go.bits .and .i64 x 32 = 0) ↔ x / 32 % 2 = 0) ∧ ((Go.bits .and .i64 x 18 = 0) ↔ (x / 2 % 2 = 0 ∧ x / 16 % 2 = 0)) := by
  obtain ⟨n, rfl⟩ : ∃ n : Nat, x = n := ⟨x.toNat, by omega⟩
  have a1 := and_nat n 256 (by omega) (by omega)
  have a2 := and_nat n 4 (by omega) (by omega)
  have a3 := and_nat n 1 (by omega) (by omega)
  have a4 := and_nat n 32 (by omega) (by omega)
  have a5 := and_nat n 18 (by omega) (by omega)
  have b1 := and_bit n 8
  have b2 := and_bit n 2
  have b3 := and_bit n 0
  have b4 := and_bit n 5
  have b5 := and_bit n 1
  have b6 := and_bit n 4
  have e : n &&& 18 = (n &&& 2) ||| (n &&& 16) := by rw [← Nat.and_or_distrib_left]; rfl
  have o : ((n &&& 2) ||| (n &&& 16) = 0) ↔ (n &&& 2 = 0 ∧ n &&& 16 = 0) := Nat.or_eq_zero_iff
  simp only [Nat.reducePow] at b1 b2 b3 b4 b5 b6
  rw [show ((256 : Nat) : Int) = 256 from rfl] at a1
  rw [show ((4 : Nat) : Int) = 4 from rfl] at a2
  rw [show ((1 : Nat) : Int) = 1 from rfl] at a3
  rw [show ((32 : Nat) : Int) = 32 from rfl] at a4
  rw [show ((18 : Nat) : Int) = 18 from rfl, e] at a5
  rw [a1, a2, a3, a4, a5]
  refine ⟨?_, ?_, ?_, ?_, ?_⟩ <;> omega
theorem bit_eq (x m : Int) (h0 : 0 ≤ x) (h1 : x < 9223372036854775808) (hm : 1 ≤ m) : wharfref16_bit.f x m = some (decide (x / m % 2 = 1)) := by
  have hb : 0 ≤ x / m := Int.ediv_nonneg h0 (by omega)
  have hc : x / m ≤ x := Int.ediv_le_self m h0
  unfold wharfref16_bit.f
  rw [if_neg (by omega), Int.tdiv_eq_ediv_of_nonneg h0, wid _ (by omega) (by omega), Int.tmod_eq_emod_of_nonneg hb]
  rfl
/-- what a status shows -/
def shown (x : Int) : ByteArray × Bool :=
  if x < 0 ∨ x / 256 % 2 = 1 then (⟨#[]⟩, false)
  else if x / 2 % 2 = 1 ∨ x / 16 % 2 = 1 then (⟨#[100, 110, 100]⟩, true)
  else if x / 4 % 2 = 1 then (⟨#[120, 97]⟩, true)
  else if x % 2 = 1 then (⟨#[97, 119, 97, 121]⟩, true)
  else if x / 32 % 2 = 1 then (⟨#[99, 104, 97, 116]⟩, true)
  else (⟨#[]⟩, true)
theorem Show_eq (x : Int) (h0 : -9223372036854775808 ≤ x) (h1 : x < 9223372036854775808) (k : Nat) (hk : 1 ≤ k) : shade_Show.f k x = some (shown x) := by
  obtain ⟨k, rfl⟩ : ∃ m, k = m + 1 := ⟨k - 1, by omega⟩
  unfold shade_Show.f shown
  simp only [shade_Show.j0]
  by_cases c : x < 0
  · rw [if_pos c, if_pos (Or.inl c)]; rfl
  · obtain ⟨b1, b2, b3, b4, b5⟩ := bit1 x (by omega) h1
    rw [if_neg c]
    by_cases c1 : x / 256 % 2 = 1
    · rw [if_pos (Or.inr c1), if_pos (bne_iff_ne.mpr (fun h => by have := b1.mp h; omega))]
    · have e1 : (Go.bits .and .i64 x 256 != 0) = false := bne_eq_false_iff_eq.mpr (b1.mpr (by omega))
      rw [e1, if_neg Bool.false_ne_true, if_neg (show ¬ (x < 0 ∨ x / 256 % 2 = 1) by omega)]
      by_cases c2 : x / 2 % 2 = 1 ∨ x / 16 % 2 = 1
      · rw [if_pos c2, if_neg (fun h => by have := b5.mp h; omega)]
      · rw [if_neg c2, if_pos (b5.mpr (by omega))]
        by_cases c3 : x / 4 % 2 = 1
        · rw [if_pos c3, if_neg (fun h => by have := b2.mp h; omega)]
        · rw [if_neg c3, if_pos (b2.mpr (by omega))]
          by_cases c4 : x % 2 = 1
          · rw [if_pos c4, if_neg (fun h => by have := b3.mp h; omega)]
          · rw [if_neg c4, if_pos (b3.mpr (by omega))]
            by_cases c5 : x / 32 % 2 = 1
            · rw [if_pos c5, if_neg (fun h => by have := b4.mp h; omega)]
            · rw [if_neg c5, if_pos (b4.mpr (by omega))]
theorem refShow_eq (x : Int) (h0 : -9223372036854775808 ≤ x) (h1 : x < 9223372036854775808) (k : Nat) (hk : 1 ≤ k) : wharfref16_Show.f k x = some (shown x) := by
  obtain ⟨k, rfl⟩ : ∃ m, k = m + 1 := ⟨k - 1, by omega⟩
  unfold wharfref16_Show.f shown
  simp only [wharfref16_Show.j0]
  by_cases c : x < 0
  · rw [if_pos c, if_pos (Or.inl c)]
  · have be := fun m hm => bit_eq x m (by omega) h1 hm
    rw [if_neg c, be 256 (by omega), Option.bind_some]
    by_cases c1 : x / 256 % 2 = 1
    · rw [if_pos (Or.inr c1), decide_eq_true c1, if_pos rfl]
    · rw [decide_eq_false c1, if_neg Bool.false_ne_true, if_neg (show ¬ (x < 0 ∨ x / 256 % 2 = 1) by omega), be 2 (by omega), Option.bind_some, be 16 (by omega), Option.bind_some, be 4 (by omega), Option.bind_some, be 1 (by omega), Option.bind_some, be 32 (by omega), Option.bind_some, Int.ediv_one]
      by_cases c2 : x / 2 % 2 = 1
      · rw [decide_eq_true c2, if_pos rfl, if_pos trivial, if_pos (Or.inl c2)]
      · rw [decide_eq_false c2, if_neg Bool.false_ne_true]
        by_cases c2' : x / 16 % 2 = 1
        · rw [decide_eq_true c2', if_pos rfl, if_pos (Or.inr c2')]
        · rw [decide_eq_false c2', if_neg Bool.false_ne_true, if_neg (show ¬ (x / 2 % 2 = 1 ∨ x / 16 % 2 = 1) by omega)]
          simp only [decide_eq_true_eq]
          repeat' split
          all_goals rfl
end Go.Proofs.Ytaaoaikfkgbfhaa.Shade

namespace Go.Proofs.Ytaaoaikfkgbfhaa.Html
open Go.RowKit Go.Proofs.YtaaoaikfkgbfhaaW.PrintWords Go.Proofs.Ytaaoaikfkgbfhaa.Bytes Go.Proofs.Ytaaoaikfkgbfhaa.Utf Go.Lib Go.Proofs.Ytaaoaikfkgbfhaa.H

/-- a sign as it is written -/
def esc (c : Nat) : List UInt8 :=
  if c = 38 then [38, 97, 109, 112, 59] else if c = 60 then [38, 108, 116, 59] else if c = 62 then [38, 103, 116, 59] else if c = 34 then [38, 113, 117, 111, 116, 59] else if c = 10 then [60, 66, 82, 62] else enc c
theorem esc_length (c : Nat) : 1 ≤ (esc c).length ∧ (esc c).length ≤ 6 := by
  unfold esc
  have := width_pos c
  repeat' split
  all_goals first | (rw [enc_length]; omega) | (constructor <;> decide)
theorem written_eq (c : Nat) (h : Sign c) : L (shadeWritten (c : Int)) = esc c := by
  unfold shadeWritten esc
  by_cases c1 : c = 38
  · rw [if_pos (by omega), if_pos c1]
  · rw [if_neg (by omega), if_neg c1]
    by_cases c2 : c = 60
    · rw [if_pos (by omega), if_pos c2]
    · rw [if_neg (by omega), if_neg c2]
      by_cases c3 : c = 62
      · rw [if_pos (by omega), if_pos c3]
      · rw [if_neg (by omega), if_neg c3]
        by_cases c4 : c = 34
        · rw [if_pos (by omega), if_pos c4]
        · rw [if_neg (by omega), if_neg c4]
          by_cases c5 : c = 10
          · rw [if_pos (by omega), if_pos c5]
          · rw [if_neg (by omega), if_neg c5, enc_encode c h]
theorem sgn_none {l : List UInt8} (h : l ≠ []) (hs : sgn l = none) : (decodeL l).2 = 1 := by
  unfold sgn at hs
  rw [if_neg h] at hs
  split at hs
  · rename_i c; exact c.2
  · cases hs
theorem sgn_some {l : List UInt8} {c n : Nat} (hs : sgn l = some (c, n)) : decodeL l = (c, n) := by
  unfold sgn at hs
  split at hs
  · cases hs
  · split at hs
    · cases hs
    · exact Option.some.inj hs
/-- bytes, written: at most so many -/
def toH (most : Int) : Nat → List UInt8 → List UInt8 → List UInt8
  | 0, _, acc => acc
  | k + 1, l, acc => if l = [] then acc else match sgn l with
    | none => toH most k (l.drop 1) acc
    | some (c, n) => if ((esc c).length : Int) > wrap64 (most - (acc.length : Int)) then acc else toH most k (l.drop n) (acc ++ esc c)
theorem go_eq (s : ByteArray) (most : Int) (hs : s.size ≤ 1000000) : ∀ (k pos : Nat) (acc : List UInt8), pos ≤ s.size → s.size - pos < k → acc.length ≤ 6 * pos → toHtmlGo s most k pos acc = some ⟨(toH most k ((L s).drop pos) acc).toArray⟩ := by
  intro k
  induction k with
  | zero => intro pos acc _ h; omega
  | succ k ih =>
    intro pos acc h0 h1 h2
    have hd : decodeL ((L s).drop pos) = Utf8.decode s pos := decodeL_drop s pos
    have hsz : (L s).length = s.size := rfl
    simp only [toHtmlGo, toH]
    by_cases hp : pos < s.size
    · have hne : (L s).drop pos ≠ [] := by
        intro e
        have := congrArg List.length e
        rw [List.length_drop] at this
        simp at this
        omega
      rw [if_pos hp, if_neg hne, First_eq, L_tail, Option.bind_some]
      cases hg : sgn ((L s).drop pos) with
      | none =>
        have e : firstAns ((L s).drop pos) = (0, 0, 10) := by unfold firstAns; rw [hg]
        have h3 := sgn_none hne hg
        rw [hd] at h3
        rw [e, if_neg (by decide), h3, ih (pos + 1) acc (by omega) (by omega) (by omega), List.drop_drop]
      | some p =>
        obtain ⟨c, n⟩ := p
        have e : firstAns ((L s).drop pos) = ((c : Int), (n : Int), 0) := by unfold firstAns; rw [hg]
        have h3 := sgn_some hg
        rw [hd] at h3
        obtain ⟨hsg, hw, t, ht⟩ := enc_sgn hg
        have h4 : width c ≤ s.size - pos := by
          have := congrArg List.length ht
          rw [List.length_drop, List.length_append, enc_length] at this
          omega
        have h5 := width_pos c
        have h6 := esc_length c
        have h7 : (shadeWritten (c : Int)).size = (esc c).length := by rw [size_L, written_eq c hsg]
        rw [e, if_pos rfl, h3]
        simp only []
        rw [h7]
        by_cases c1 : ((esc c).length : Int) > wrap64 (most - (acc.length : Int))
        · rw [if_pos c1, if_pos c1]
        · rw [if_neg c1, if_neg c1, if_pos (by omega), show (shadeWritten (c : Int)).data.toList = esc c from written_eq c hsg, ih (pos + n) _ (by omega) (by omega) (by rw [List.length_append]; omega), List.drop_drop]
    · rw [if_neg hp, if_pos (by rw [List.drop_of_length_le (by omega)])]
theorem ToHtml_eq (s : ByteArray) (most : Int) (hs : s.size ≤ 1000000) : shade_ToHtml.f s most = some ⟨(toH most (s.size + 1) (L s) []).toArray⟩ := by
  have := go_eq s most hs (s.size + 1) 0 [] (by omega) (by omega) (by simp)
  rw [List.drop_zero] at this
  exact this
end Go.Proofs.Ytaaoaikfkgbfhaa.Html

namespace Go.Proofs.Ytaaoaikfkgbfhaa.FHtml
open Go.RowKit Go.Proofs.YtaaoaikfkgbfhaaW.PrintWords Go.Proofs.Ytaaoaikfkgbfhaa.Bytes Go.Proofs.Ytaaoaikfkgbfhaa.Utf Go.Lib Go.Proofs.Ytaaoaikfkgbfhaa.H

def foldU (u : UInt8) : UInt8 := if 65 ≤ u.toNat ∧ u.toNat ≤ 90 then UInt8.ofNat (u.toNat + 32) else u
theorem fold_all : ∀ n : Nat, n < 256 → foldByte (n : Int) = if 65 ≤ n ∧ n ≤ 90 then ((n + 32 : Nat) : Int) else (n : Int) := by decide +kernel
theorem foldByte_u (u : UInt8) : UInt8.ofNat (foldByte (u.toNat : Int)).toNat = foldU u := by
  rw [fold_all u.toNat u.toNat_lt]
  unfold foldU
  split
  · rfl
  · simp
theorem Fold_eq (s : ByteArray) (hs : s.size ≤ 140737488351232) : ∃ r, glyph_Fold.f s = some r ∧ L r = (L s).map foldU := by
  unfold glyph_Fold.f
  rw [if_pos (by omega)]
  refine ⟨_, rfl, ?_⟩
  rw [L_nums]
  unfold bytesOf
  rw [List.map_map, List.map_map]
  apply List.map_congr_left
  intro u _
  exact foldByte_u u
/-- what is ahead of a '>', and what is behind it -/
def cutL : List UInt8 → Option (List UInt8 × List UInt8)
  | [] => none
  | b :: l => if b = 62 then some ([], l) else match cutL l with
    | some (p, q) => some (b :: p, q)
    | none => none
theorem cutL_index : ∀ l : List UInt8, (cutL l = none → Lib.indexByte l 62 = -1) ∧ (∀ p q, cutL l = some (p, q) → Lib.indexByte l 62 = (p.length : Int) ∧ l = p ++ 62 :: q) := by
  intro l
  induction l with
  | nil => exact ⟨fun _ => rfl, fun p q h => by cases h⟩
  | cons b l ih =>
    by_cases hb : b = 62
    · have e : cutL (b :: l) = some ([], l) := by simp only [cutL]; rw [if_pos hb]
      refine ⟨fun h => (by rw [e] at h; cases h), fun p q h => ?_⟩
      rw [e] at h
      obtain ⟨rfl, rfl⟩ := Prod.mk.inj (Option.some.inj h)
      refine ⟨?_, by rw [hb]; rfl⟩
      simp only [Lib.indexByte]
      rw [if_pos (beq_iff_eq.mpr hb)]
      rfl
    · have hb' : (b == 62) = false := beq_eq_false_iff_ne.mpr hb
      cases hc : cutL l with
      | none =>
        have e : cutL (b :: l) = none := by simp only [cutL]; rw [if_neg hb, hc]
        refine ⟨fun _ => ?_, fun p q h => (by rw [e] at h; cases h)⟩
        simp only [Lib.indexByte]
        rw [hb', ih.1 hc]
        rfl
      | some pq =>
        obtain ⟨p', q'⟩ := pq
        have e : cutL (b :: l) = some (b :: p', q') := by simp only [cutL]; rw [if_neg hb, hc]
        refine ⟨fun h => (by rw [e] at h; cases h), fun p q h => ?_⟩
        rw [e] at h
        obtain ⟨rfl, rfl⟩ := Prod.mk.inj (Option.some.inj h)
        obtain ⟨h1, h2⟩ := ih.2 p' q' hc
        refine ⟨?_, by rw [h2]; rfl⟩
        simp only [Lib.indexByte]
        rw [hb', h1, if_neg Bool.false_ne_true, if_neg (by simp)]
        simp
theorem Cut_none (s : ByteArray) (h : cutL (L s) = none) : ∃ a b, strings_Cut.f s ⟨#[62]⟩ = some (a, b, false) := by
  have e := (cutL_index (L s)).1 h
  refine ⟨s, ⟨#[]⟩, ?_⟩
  show (cutAt s (Lib.indexByte (L s) 62)).bind _ = _
  rw [e]
  rfl
theorem Cut_some (s : ByteArray) (hs : s.size ≤ 140737488351232) (p q : List UInt8) (h : cutL (L s) = some (p, q)) : ∃ a b, strings_Cut.f s ⟨#[62]⟩ = some (a, b, true) ∧ L a = p ∧ L b = q := by
  obtain ⟨e, hl⟩ := (cutL_index (L s)).2 p q h
  have hlen : s.size = p.length + (q.length + 1) := by rw [size_L, hl, List.length_append, List.length_cons]
  refine ⟨s.extract 0 p.length, s.extract (p.length + 1) s.size, ?_, ?_, ?_⟩
  · show (cutAt s (Lib.indexByte (L s) 62)).bind _ = _
    rw [e]
    unfold cutAt
    rw [if_pos (by omega), if_pos (by omega), if_pos (by omega), Option.bind_some, Int.toNat_natCast, show ((p.length : Int) + 1).toNat = p.length + 1 by omega]
  · rw [L_head, hl, List.take_left]
  · rw [L_tail, hl, show p.length + 1 = (p ++ [62]).length by simp, show p ++ 62 :: q = (p ++ [62]) ++ q by simp, List.drop_left]
theorem ent_bound (l : List UInt8) : ∀ es : List (List UInt8 × Int), (∀ e ∈ es, 0 ≤ e.2 ∧ e.2 < 256) → (shadeEnt l es).2 > 0 → (shadeEnt l es).2 ≤ (l.length : Int) ∧ 0 ≤ (shadeEnt l es).1 ∧ (shadeEnt l es).1 < 256 := by
  intro es
  induction es with
  | nil => intro _ h; exact absurd (show (0 : Int) > 0 from h) (by decide)
  | cons e es ih =>
    obtain ⟨m, c⟩ := e
    intro he h
    simp only [shadeEnt] at h ⊢
    by_cases hp : Lib.hasPrefix l m = true
    · rw [if_pos hp] at h ⊢
      have h1 := (List.isPrefixOf_iff_prefix.mp hp).length_le
      have h2 := he (m, c) (List.mem_cons_self ..)
      exact ⟨by show (m.length : Int) ≤ _; omega, h2.1, h2.2⟩
    · rw [if_neg hp] at h ⊢
      exact ih (fun e hm => he e (List.mem_cons_of_mem _ hm)) h
/-- one sign that stands for itself, or by a name -/
def tailL (go : List UInt8 → List UInt8 → List UInt8) (a : UInt8) (t acc : List UInt8) : List UInt8 :=
  if (shadeEnt (a :: t) shadeEnts).2 > 0 then go ((a :: t).drop (shadeEnt (a :: t) shadeEnts).2.toNat) (acc ++ [(shadeEnt (a :: t) shadeEnts).1.toNat.toUInt8]) else go t (acc ++ [a])
/-- bytes, read -/
def fromL : Nat → List UInt8 → List UInt8 → List UInt8
  | 0, _, acc => acc
  | _ + 1, [], acc => acc
  | k + 1, a :: t, acc =>
    if a = 60 then match cutL t with
      | some (p, q) => fromL k q (if p.map foldU = [98, 114] ∨ p.map foldU = [98, 114, 47] then acc ++ [10] else acc)
      | none => tailL (fromL k) a t acc
    else tailL (fromL k) a t acc
theorem hd_L (s : ByteArray) (a : UInt8) (t : List UInt8) (h : L s = a :: t) : hdB s = a := by
  have hpos : 0 < s.size := by rw [size_L, h]; simp
  unfold hdB
  rw [dif_pos hpos]
  have : s[0]'hpos = (L s)[0]'hpos := rfl
  rw [this]
  simp only [h, List.getElem_cons_zero]
theorem tail_eq (k : Nat) (s : ByteArray) (acc : List UInt8) (a : UInt8) (t : List UInt8) (h : L s = a :: t)
    (ih : ∀ (x : ByteArray) (acc' : List UInt8), x.size < s.size → acc'.length ≤ acc.length + 1 → fromHtmlGo k x acc' = some ⟨(fromL k (L x) acc').toArray⟩) : fromHtmlTail (fromHtmlGo k) s acc = some ⟨(tailL (fromL k) a t acc).toArray⟩ := by
  have hsz : s.size = t.length + 1 := by rw [size_L, h]; simp
  have hb := ent_bound (L s) shadeEnts (by decide)
  unfold fromHtmlTail tailL
  have he : shade_entity.f s = some (shadeEnt (L s) shadeEnts) := rfl
  rw [he, Option.bind_some, h]
  rw [h] at hb
  by_cases c : (shadeEnt (a :: t) shadeEnts).2 > 0
  · obtain ⟨b1, b2, b3⟩ := hb c
    rw [List.length_cons] at b1
    have hx : (s.extract (shadeEnt (a :: t) shadeEnts).2.toNat s.size).size = s.size - (shadeEnt (a :: t) shadeEnts).2.toNat := by rw [size_L, L_tail, List.length_drop]; rfl
    rw [if_pos c, if_pos c, if_pos ⟨by omega, b2, b3⟩, ih _ _ (by omega) (by simp), L_tail, h]
  · have hx : (s.extract 1 s.size).size = s.size - 1 := by rw [size_L, L_tail, List.length_drop]; rfl
    rw [if_neg c, if_neg c, ih _ _ (by omega) (by simp), L_tail, hd_L s a t h, h]
    rfl
theorem from_eq : ∀ (k : Nat) (s : ByteArray) (acc : List UInt8), s.size < k → acc.length + s.size ≤ 100000000 → fromHtmlGo k s acc = some ⟨(fromL k (L s) acc).toArray⟩ := by
  intro k
  induction k with
  | zero => intro s acc h; omega
  | succ k ih =>
    intro s acc h0 h1
    simp only [fromHtmlGo]
    rw [toList_L]
    cases hl : L s with
    | nil => rw [if_pos rfl]; rfl
    | cons a t =>
      have hsz : s.size = t.length + 1 := by rw [size_L, hl]; simp
      have ht := tail_eq k s acc a t hl (fun x acc' g1 g2 => ih x acc' (by omega) (by omega))
      have hh := hd_L s a t hl
      rw [if_neg (by simp), if_pos ⟨by omega, by omega⟩, hh]
      simp only [fromL]
      by_cases c : a = 60
      · rw [if_pos c, if_pos (by rw [c]; rfl)]
        have hx : (s.extract 1 s.size).size = s.size - 1 := by rw [size_L, L_tail, List.length_drop]; rfl
        have hx' : L (s.extract 1 s.size) = t := by rw [L_tail, hl]; rfl
        cases hc : cutL t with
        | none =>
          obtain ⟨x, y, e⟩ := Cut_none (s.extract 1 s.size) (by rw [hx']; exact hc)
          rw [e, Option.bind_some]
          dsimp only
          rw [if_neg Bool.false_ne_true]
          exact ht
        | some pq =>
          obtain ⟨p, q⟩ := pq
          obtain ⟨x, y, e, e1, e2⟩ := Cut_some (s.extract 1 s.size) (by omega) p q (by rw [hx']; exact hc)
          have hl2 := ((cutL_index t).2 p q hc).2
          have hlen : t.length = p.length + (q.length + 1) := by rw [hl2, List.length_append, List.length_cons]
          have hy : y.size = q.length := by rw [size_L, e2]
          obtain ⟨z, f1, f2⟩ := Fold_eq x (by rw [size_L, e1]; omega)
          rw [e, Option.bind_some]
          dsimp only
          rw [if_pos rfl, f1, Option.bind_some, toList_L, f2, e1]
          by_cases c1 : p.map foldU = [98, 114]
          · rw [if_pos c1, if_pos (Or.inl c1), ih y _ (by omega) (by simp; omega), e2]
          · rw [if_neg c1]
            by_cases c2 : p.map foldU = [98, 114, 47]
            · rw [if_pos c2, if_pos (Or.inr c2), ih y _ (by omega) (by simp; omega), e2]
            · rw [if_neg c2, if_neg (fun h => h.elim c1 c2), ih y _ (by omega) (by omega), e2]
      · rw [if_neg c, if_neg (fun h => c (UInt8.toNat_inj.mp (by show a.toNat = 60; omega)))]
        exact ht
theorem FromHtml_eq (s : ByteArray) (hs : s.size ≤ 1000000) : shade_FromHtml.f s = some ⟨(fromL (s.size + 1) (L s) []).toArray⟩ :=
  from_eq (s.size + 1) s [] (by omega) (by simp; omega)
end Go.Proofs.Ytaaoaikfkgbfhaa.FHtml

namespace Go.Proofs.Ytaaoaikfkgbfhaa.SFit
open Go.RowKit Go.Proofs.YtaaoaikfkgbfhaaW.PrintWords Go.Proofs.Ytaaoaikfkgbfhaa.Bytes Go.Proofs.Ytaaoaikfkgbfhaa.Utf Go.Lib Go.Proofs.Ytaaoaikfkgbfhaa.H Go.Proofs.Ytaaoaikfkgbfhaa.Html Go.Proofs.Ytaaoaikfkgbfhaa.FHtml

def escs (cs : List Nat) : List UInt8 := cs.flatMap esc
def encs (cs : List Nat) : List UInt8 := cs.flatMap enc
theorem Text.encs {cs : List Nat} : ∀ {l : List UInt8}, Text cs l → l = encs cs := by
  induction cs with
  | nil => intro l h; exact h
  | cons c cs ih =>
    intro l h
    obtain ⟨t, rfl, _, _, ht⟩ := h
    rw [ih ht]
    rfl
theorem Text.all {cs : List Nat} : ∀ {l : List UInt8}, Text cs l → ∀ c ∈ cs, Sign c ∧ Plain c := by
  induction cs with
  | nil => intro l _ c hc; exact absurd hc List.not_mem_nil
  | cons c cs ih =>
    intro l h
    obtain ⟨t, rfl, hs, hp, ht⟩ := h
    intro x hx
    rcases List.mem_cons.mp hx with rfl | hx
    · exact ⟨hs, hp⟩
    · exact ih ht x hx
theorem text_of {cs : List Nat} (h : ∀ c ∈ cs, Sign c ∧ Plain c) : Text cs (encs cs) := by
  induction cs with
  | nil => exact rfl
  | cons c cs ih => exact ⟨encs cs, rfl, (h c (List.mem_cons_self ..)).1, (h c (List.mem_cons_self ..)).2, ih (fun x hx => h x (List.mem_cons_of_mem _ hx))⟩
/-- as many signs as there is room for -/
def fit (most : Int) : List Nat → Nat → List Nat
  | [], _ => []
  | c :: cs, n => if ((esc c).length : Int) > most - n then [] else c :: fit most cs (n + (esc c).length)
theorem toH_fit (most : Int) (h0 : 0 ≤ most) (h1 : most ≤ 1000000) : ∀ (cs : List Nat) (l : List UInt8) (k : Nat) (acc : List UInt8), Text cs l → l.length < k → acc.length ≤ 1000000 → toH most k l acc = acc ++ escs (fit most cs acc.length) := by
  intro cs
  induction cs with
  | nil =>
    intro l k acc h hk _
    obtain ⟨k, rfl⟩ : ∃ m, k = m + 1 := ⟨k - 1, by omega⟩
    have h : l = [] := h
    simp only [toH]
    rw [if_pos h]
    simp [fit, escs]
  | cons c cs ih =>
    intro l k acc h hk ha
    obtain ⟨k, rfl⟩ : ∃ m, k = m + 1 := ⟨k - 1, by omega⟩
    obtain ⟨t, rfl, hs, hp, ht⟩ := h
    have hw := Utf.width_pos c
    have he := esc_length c
    have hl : (enc c ++ t).length = width c + t.length := by rw [List.length_append, enc_length]
    simp only [toH, fit]
    rw [if_neg (fun e => by rw [e] at hl; simp at hl; omega), sgn_enc c hs t]
    dsimp only
    have hwr : wrap64 (most - (acc.length : Int)) = most - (acc.length : Int) := wrap_id _ (by omega) (by omega)
    rw [hwr]
    by_cases c1 : ((esc c).length : Int) > most - (acc.length : Int)
    · rw [if_pos c1, if_pos c1]; simp [escs]
    · have hd : (enc c ++ t).drop (width c) = t := by rw [← enc_length c, List.drop_left]
      rw [if_neg c1, if_neg c1, hd, ih t k (acc ++ esc c) ht (by omega) (by rw [List.length_append]; omega), List.length_append, List.append_assoc]
      rfl
theorem fit_len (most : Int) : ∀ (cs : List Nat) (n : Nat), (n : Int) ≤ most → ((n + (escs (fit most cs n)).length : Nat) : Int) ≤ most := by
  intro cs
  induction cs with
  | nil => intro n h; simpa [fit, escs] using h
  | cons c cs ih =>
    intro n h
    simp only [fit]
    by_cases c1 : ((esc c).length : Int) > most - n
    · rw [if_pos c1]; simpa [escs] using h
    · rw [if_neg c1]
      have := ih (n + (esc c).length) (by omega)
      have e : (escs (c :: fit most cs (n + (esc c).length))).length = (esc c).length + (escs (fit most cs (n + (esc c).length))).length := by simp [escs]
      rw [e]
      omega
theorem fit_front (most : Int) : ∀ (cs : List Nat) (n : Nat), ∃ vs, cs = fit most cs n ++ vs := by
  intro cs
  induction cs with
  | nil => intro n; exact ⟨[], rfl⟩
  | cons c cs ih =>
    intro n
    simp only [fit]
    split
    · exact ⟨c :: cs, rfl⟩
    · obtain ⟨vs, h⟩ := ih (n + (esc c).length)
      exact ⟨vs, by rw [List.cons_append, ← h]⟩
theorem fit_more (most more : Int) (h : most ≤ more) : ∀ (cs : List Nat) (n : Nat), ∃ vs, fit more cs n = fit most cs n ++ vs := by
  intro cs
  induction cs with
  | nil => intro n; exact ⟨[], rfl⟩
  | cons c cs ih =>
    intro n
    simp only [fit]
    by_cases c1 : ((esc c).length : Int) > most - n
    · rw [if_pos c1]; exact ⟨_, rfl⟩
    · rw [if_neg c1, if_neg (by omega)]
      obtain ⟨vs, h⟩ := ih (n + (esc c).length)
      exact ⟨vs, by rw [List.cons_append, h]⟩
theorem fit_all (most : Int) : ∀ (cs : List Nat) (n : Nat), ((n + (escs cs).length : Nat) : Int) ≤ most → fit most cs n = cs := by
  intro cs
  induction cs with
  | nil => intro n _; rfl
  | cons c cs ih =>
    intro n h
    have e : (escs (c :: cs)).length = (esc c).length + (escs cs).length := by simp [escs]
    rw [e] at h
    simp only [fit]
    rw [if_neg (by omega), ih _ (by omega)]
theorem escs_len : ∀ cs : List Nat, (escs cs).length ≤ 6 * (encs cs).length := by
  intro cs
  induction cs with
  | nil => simp [escs, encs]
  | cons c cs ih =>
    have e : (escs (c :: cs)).length = (esc c).length + (escs cs).length := by simp [escs]
    have e' : (encs (c :: cs)).length = (enc c).length + (encs cs).length := by simp [encs]
    have h1 := esc_length c
    have h2 := Utf.width_pos c
    rw [e, e', enc_length]
    omega
end Go.Proofs.Ytaaoaikfkgbfhaa.SFit

namespace Go.Proofs.Ytaaoaikfkgbfhaa.SFit
open Go.RowKit Go.Proofs.YtaaoaikfkgbfhaaW.PrintWords Go.Proofs.Ytaaoaikfkgbfhaa.Bytes Go.Proofs.Ytaaoaikfkgbfhaa.Utf Go.Lib Go.Proofs.Ytaaoaikfkgbfhaa.H Go.Proofs.Ytaaoaikfkgbfhaa.Html Go.Proofs.Ytaaoaikfkgbfhaa.FHtml

/-- a byte that stands for itself -/
def own (b : UInt8) : Prop := b ≠ 60 ∧ b ≠ 38
theorem ent_own (b : UInt8) (t : List UInt8) (h : b ≠ 38) : shadeEnt (b :: t) shadeEnts = (0, 0) := by
  have hn : ∀ m : List UInt8, ¬ Lib.hasPrefix (b :: t) (38 :: m) = true := by
    intro m hp
    obtain ⟨u, hu⟩ := List.isPrefixOf_iff_prefix.mp hp
    exact h (List.cons.inj hu).1.symm
  unfold shadeEnts
  simp only [shadeEnt]
  rw [if_neg (hn _), if_neg (hn _), if_neg (hn _), if_neg (hn _), if_neg (hn _)]
theorem from_own : ∀ (bs t acc : List UInt8) (k : Nat), (∀ b ∈ bs, own b) → fromL (k + bs.length) (bs ++ t) acc = fromL k t (acc ++ bs) := by
  intro bs
  induction bs with
  | nil => intro t acc k _; simp
  | cons b bs ih =>
    intro t acc k h
    have hb := h b (List.mem_cons_self ..)
    rw [List.length_cons, ← Nat.add_assoc, List.cons_append]
    simp only [fromL]
    rw [if_neg hb.1]
    unfold tailL
    rw [ent_own b _ hb.2, if_neg (by decide), ih t (acc ++ [b]) k (fun x hx => h x (List.mem_cons_of_mem _ hx)), List.append_assoc]
    rfl
theorem enc_own (c : Nat) (h : Sign c) (h1 : c ≠ 60) (h2 : c ≠ 38) : ∀ b ∈ enc c, own b := by
  intro b hb
  have hk : ∀ n : Nat, n < 256 → n ≠ 60 → n ≠ 38 → own (UInt8.ofNat n) := by
    intro n hn a1 a2
    refine ⟨fun e => a1 ?_, fun e => a2 ?_⟩
    · have := congrArg UInt8.toNat e
      rw [toNat_of n hn] at this
      exact this
    · have := congrArg UInt8.toNat e
      rw [toNat_of n hn] at this
      exact this
  unfold Sign at h
  unfold enc at hb
  split at hb
  · rw [List.mem_singleton] at hb
    rw [hb]
    exact hk c (by omega) h1 h2
  · split at hb
    · simp only [List.mem_cons, List.not_mem_nil, or_false] at hb
      rcases hb with rfl | rfl <;> exact hk _ (by omega) (by omega) (by omega)
    · split at hb
      · simp only [List.mem_cons, List.not_mem_nil, or_false] at hb
        rcases hb with rfl | rfl | rfl <;> exact hk _ (by omega) (by omega) (by omega)
      · simp only [List.mem_cons, List.not_mem_nil, or_false] at hb
        rcases hb with rfl | rfl | rfl | rfl <;> exact hk _ (by omega) (by omega) (by omega)
theorem pre (m t : List UInt8) : Lib.hasPrefix (m ++ t) m = true := List.isPrefixOf_iff_prefix.mpr (List.prefix_append m t)
theorem from_escs : ∀ (cs : List Nat) (k : Nat) (acc : List UInt8), (∀ c ∈ cs, Sign c) → (escs cs).length < k → fromL k (escs cs) acc = acc ++ encs cs := by
  intro cs
  induction cs with
  | nil =>
    intro k acc _ hk
    obtain ⟨k, rfl⟩ : ∃ m, k = m + 1 := ⟨k - 1, by omega⟩
    simp [escs, encs, fromL]
  | cons c cs ih =>
    intro k acc h hk
    have hs := h c (List.mem_cons_self ..)
    have hr : ∀ x ∈ cs, Sign x := fun x hx => h x (List.mem_cons_of_mem _ hx)
    have e : escs (c :: cs) = esc c ++ escs cs := by simp [escs]
    have e' : encs (c :: cs) = enc c ++ encs cs := by simp [encs]
    rw [e, List.length_append] at hk
    rw [e, e']
    have hel := esc_length c
    obtain ⟨k, rfl⟩ : ∃ m, k = m + 1 := ⟨k - 1, by omega⟩
    have named : ∀ (m : List UInt8) (b : UInt8), esc c = 38 :: m → enc c = [b] → shadeEnt (38 :: (m ++ escs cs)) shadeEnts = ((b.toNat : Int), ((m.length + 1 : Nat) : Int)) → fromL (k + 1) (esc c ++ escs cs) acc = acc ++ (enc c ++ encs cs) := by
      intro m b h1 h2 h3
      rw [h1] at hk ⊢
      rw [List.length_cons] at hk
      rw [List.cons_append]
      simp only [fromL]
      rw [if_neg (by decide)]
      unfold tailL
      have hb : (b.toNat : Int).toNat.toUInt8 = b := by simp
      rw [h3]
      simp only []
      rw [if_pos (by omega), Int.toNat_natCast, List.drop_succ_cons, List.drop_left, hb, ih k (acc ++ [b]) hr (by omega), h2, List.append_assoc]
    by_cases c1 : c = 38
    · subst c1
      refine named [97, 109, 112, 59] 38 rfl rfl ?_
      have hp : Lib.hasPrefix (38 :: ([97, 109, 112, 59] ++ escs cs)) [38, 97, 109, 112, 59] = true := pre [38, 97, 109, 112, 59] (escs cs)
      unfold shadeEnts
      simp only [shadeEnt]
      rw [if_pos hp]
      rfl
    by_cases c2 : c = 60
    · subst c2
      refine named [108, 116, 59] 60 rfl rfl ?_
      have hp : Lib.hasPrefix (38 :: ([108, 116, 59] ++ escs cs)) [38, 108, 116, 59] = true := pre [38, 108, 116, 59] (escs cs)
      unfold shadeEnts
      simp only [shadeEnt]
      rw [if_neg (by simp [Lib.hasPrefix, List.isPrefixOf]), if_pos hp]
      rfl
    by_cases c3 : c = 62
    · subst c3
      refine named [103, 116, 59] 62 rfl rfl ?_
      have hp : Lib.hasPrefix (38 :: ([103, 116, 59] ++ escs cs)) [38, 103, 116, 59] = true := pre [38, 103, 116, 59] (escs cs)
      unfold shadeEnts
      simp only [shadeEnt]
      rw [if_neg (by simp [Lib.hasPrefix, List.isPrefixOf]), if_neg (by simp [Lib.hasPrefix, List.isPrefixOf]), if_pos hp]
      rfl
    by_cases c4 : c = 34
    · subst c4
      refine named [113, 117, 111, 116, 59] 34 rfl rfl ?_
      have hp : Lib.hasPrefix (38 :: ([113, 117, 111, 116, 59] ++ escs cs)) [38, 113, 117, 111, 116, 59] = true := pre [38, 113, 117, 111, 116, 59] (escs cs)
      unfold shadeEnts
      simp only [shadeEnt]
      rw [if_neg (by simp [Lib.hasPrefix, List.isPrefixOf]), if_neg (by simp [Lib.hasPrefix, List.isPrefixOf]), if_neg (by simp [Lib.hasPrefix, List.isPrefixOf]), if_pos hp]
      rfl
    by_cases c5 : c = 10
    · subst c5
      have h1 : esc 10 = [60, 66, 82, 62] := rfl
      have h2 : enc 10 = [10] := rfl
      have hc : cutL (66 :: 82 :: 62 :: escs cs) = some ([66, 82], escs cs) := by
        simp only [cutL]
        rw [if_neg (by decide), if_neg (by decide), if_pos (by decide)]
      rw [h1] at hk ⊢
      rw [show ([60, 66, 82, 62] : List UInt8) ++ escs cs = 60 :: 66 :: 82 :: 62 :: escs cs from rfl]
      simp only [fromL]
      rw [if_pos trivial, hc]
      dsimp only
      rw [if_pos (Or.inl (by decide)), ih k (acc ++ [10]) hr (by simp at hk; omega), h2, List.append_assoc]
    · have h1 : esc c = enc c := by unfold esc; rw [if_neg c1, if_neg c2, if_neg c3, if_neg c4, if_neg c5]
      rw [h1] at hk ⊢
      obtain ⟨j, hj⟩ : ∃ j, k + 1 = j + (enc c).length := ⟨k + 1 - (enc c).length, by omega⟩
      rw [hj, from_own (enc c) (escs cs) acc j (enc_own c hs c2 c1), ih j _ hr (by omega), List.append_assoc]
end Go.Proofs.Ytaaoaikfkgbfhaa.SFit

namespace Go.Proofs.Ytaaoaikfkgbfhaa.SFit
open Go.RowKit Go.Proofs.Ytaaoaikfkgbfhaa.H Go.Proofs.YtaaoaikfkgbfhaaW.PrintWords Go.Proofs.Ytaaoaikfkgbfhaa.Utf Go.Proofs.Ytaaoaikfkgbfhaa.Bytes

theorem refPlain (c : Nat) : wharfref01_Plain.f (c : Int) = some (decide (Plain c)) := by
  unfold wharfref01_Plain.f
  by_cases h1 : c = 9
  · subst h1
    rfl
  by_cases h2 : c = 10
  · subst h2
    rfl
  by_cases h3 : c = 13
  · subst h3
    rfl
  rw [if_neg (by omega), if_neg (by omega), if_neg (by omega)]
  by_cases h4 : 32 ≤ c
  · rw [if_pos (by omega)]
    by_cases h5 : c = 65534
    · subst h5
      rfl
    · rw [if_neg (by omega)]
      congr 1
      rw [Bool.eq_iff_iff, decide_eq_true_iff, bne_iff_ne]
      unfold Plain
      omega
  · rw [if_neg (by omega)]
    congr 1
    rw [eq_comm, decide_eq_false_iff_not]
    unfold Plain
    omega
theorem signs_ok : ∀ (cs : List Nat) (s : ByteArray) (out : List Int) (k : Nat), Text cs (L s) → out.length + cs.length ≤ 4000000 → cs.length + 14 ≤ k → ∃ r, wharfref01_Signs.l0 k s out = some (r, true) ∧ r.length = out.length + cs.length := by
  intro cs
  induction cs with
  | nil =>
    intro s out k h hn hk
    obtain ⟨k, rfl⟩ : ∃ m, k = m + 1 := ⟨k - 1, by omega⟩
    have h : L s = [] := h
    simp only [wharfref01_Signs.l0]
    rw [toList_L, if_pos h]
    exact ⟨out, rfl, rfl⟩
  | cons c cs ih =>
    intro s out k h hn hk
    rw [List.length_cons] at hn hk
    obtain ⟨k, rfl⟩ : ∃ m, k = m + 1 := ⟨k - 1, by omega⟩
    obtain ⟨t, ht, hs, hp, htx⟩ := h
    have hsg := sgn_enc c hs t
    rw [← ht] at hsg
    have hl : (L s).length = width c + t.length := by rw [ht, List.length_append, enc_length]
    have hw := Utf.width_pos c
    simp only [wharfref01_Signs.l0]
    rw [toList_L, if_neg (fun e => by rw [e] at hl; simp at hl; omega), refFirst_eq _ k (by omega)]
    unfold firstAns
    rw [hsg]
    simp only [Option.bind_some, if_true]
    rw [refPlain, decide_eq_true hp]
    simp only [Option.bind_some, if_true]
    rw [if_pos (by omega), if_pos (by omega), if_pos (by rw [size_L]; omega), Int.toNat_natCast]
    obtain ⟨r, hr, hlen⟩ := ih (s.extract (width c) s.size) (out ++ [(c : Int)]) k (by rw [tail_of ht]; exact htx) (by rw [List.length_append, List.length_cons, List.length_nil]; omega) (by omega)
    refine ⟨r, hr, ?_⟩
    rw [hlen, List.length_append, List.length_cons, List.length_cons, List.length_nil]
    omega
theorem signs_no : ∀ (d : Nat) (s : ByteArray) (out : List Int) (k : Nat), s.size ≤ d → (¬ ∃ cs, Text cs (L s)) → out.length + d ≤ 4000000 → d + 14 ≤ k → wharfref01_Signs.l0 k s out = some ([], false) := by
  intro d
  induction d with
  | zero =>
    intro s out k h hno hn hk
    exact absurd (List.length_eq_zero_iff.mp (Nat.le_zero.mp h)) (no_text hno).1
  | succ d ih =>
    intro s out k h hno hn hk
    obtain ⟨k, rfl⟩ : ∃ m, k = m + 1 := ⟨k - 1, by omega⟩
    obtain ⟨hne, hcase⟩ := no_text hno
    simp only [wharfref01_Signs.l0]
    rw [toList_L, if_neg hne, refFirst_eq _ k (by omega)]
    unfold firstAns
    rcases hcase with h0 | ⟨c, t, h1, ht, hc, h2⟩
    · rw [h0]
      rfl
    · have hl : (L s).length = width c + t.length := by rw [ht, List.length_append, enc_length]
      have hw := Utf.width_pos c
      rw [h1]
      simp only [Option.bind_some, if_true]
      rw [refPlain]
      simp only [Option.bind_some]
      rcases h2 with h2 | ⟨h2, h3⟩
      · rw [decide_eq_false h2]
        rfl
      · rw [decide_eq_true h2, if_pos rfl, if_pos (by omega), if_pos (by omega), if_pos (by rw [size_L]; omega), Int.toNat_natCast]
        exact ih _ _ k (by rw [size_L, tail_of ht]; rw [size_L] at h; omega) (by rw [tail_of ht]; exact h3) (by rw [List.length_append, List.length_cons, List.length_nil]; omega) (by omega)
theorem Signs_ok {cs : List Nat} {s : ByteArray} (h : Text cs (L s)) (hs : s.size ≤ 2000000) (k : Nat) (hk : 2000100 ≤ k) : ∃ r, wharfref01_Signs.f k s = some (r, true) := by
  have hl := h.length
  rw [← size_L] at hl
  obtain ⟨r, e, _⟩ := signs_ok cs s [] k h (by simp; omega) (by omega)
  exact ⟨r, e⟩
theorem Signs_no {s : ByteArray} (h : ¬ ∃ cs, Text cs (L s)) (hs : s.size ≤ 2000000) (k : Nat) (hk : 2000100 ≤ k) : wharfref01_Signs.f k s = some ([], false) :=
  signs_no s.size s [] k (Nat.le_refl _) h (by simp; omega) (by omega)
end Go.Proofs.Ytaaoaikfkgbfhaa.SFit

namespace Go.Proofs.Ytaaoaikfkgbfhaa.Pure
open Go.RowKit Go.Proofs.Ytaaoaikfkgbfhaa.H Go.Proofs.YtaaoaikfkgbfhaaW.PrintWords Go.Proofs.YtaaoaikfkgbfhaaW.PrintLast Go.Proofs.YtaaoaikfkgbfhaaW.PrintMore Go.Proofs.Ytaaoaikfkgbfhaa.Shade Go.Proofs.Ytaaoaikfkgbfhaa.Bytes Go.Proofs.Ytaaoaikfkgbfhaa.SFit Go.Proofs.Ytaaoaikfkgbfhaa.Utf Go.Proofs.Ytaaoaikfkgbfhaa.Html

theorem one_byte (b : Nat) (hb : b < 128) : enc b = [UInt8.ofNat b] := by unfold enc; rw [if_pos hb]
theorem ascii (b : Nat) (h0 : 32 ≤ b) (hb : b < 128) : Sign b ∧ Plain b := ⟨Or.inl (by omega), Or.inr (Or.inr (Or.inr ⟨by omega, by omega, by omega⟩))⟩
theorem esc_text (c : Nat) (h : Sign c) (hp : Plain c) : ∃ ds, Text ds (esc c) := by
  have go : ∀ l : List Nat, (∀ b ∈ l, 32 ≤ b ∧ b < 128) → Text l (encs l) := fun l hl => text_of fun b hb => ascii b (hl b hb).1 (hl b hb).2
  unfold esc
  repeat' split
  · exact ⟨_, go [38, 97, 109, 112, 59] (by decide)⟩
  · exact ⟨_, go [38, 108, 116, 59] (by decide)⟩
  · exact ⟨_, go [38, 103, 116, 59] (by decide)⟩
  · exact ⟨_, go [38, 113, 117, 111, 116, 59] (by decide)⟩
  · exact ⟨_, go [60, 66, 82, 62] (by decide)⟩
  · exact ⟨[c], [], by rw [List.append_nil], h, hp, rfl⟩
theorem escs_text : ∀ cs : List Nat, (∀ c ∈ cs, Sign c ∧ Plain c) → ∃ ds, Text ds (escs cs) := by
  intro cs
  induction cs with
  | nil => intro _; exact ⟨[], rfl⟩
  | cons c cs ih =>
    intro h
    obtain ⟨d1, h1⟩ := esc_text c (h c (List.mem_cons_self ..)).1 (h c (List.mem_cons_self ..)).2
    obtain ⟨d2, h2⟩ := ih fun x hx => h x (List.mem_cons_of_mem _ hx)
    exact ⟨d1 ++ d2, by have := Text.append h1 h2; simpa [escs] using this⟩
/-- each '<' is the front of '<BR>' -/
def Brs : List UInt8 → Prop
  | [] => True
  | b :: t => (b = 60 → (b :: t).take 4 = [60, 66, 82, 62]) ∧ Brs t
theorem brs_own : ∀ (bs t : List UInt8), (∀ b ∈ bs, b ≠ 60) → Brs t → Brs (bs ++ t) := by
  intro bs
  induction bs with
  | nil => intro t _ h; exact h
  | cons b bs ih =>
    intro t h ht
    exact ⟨fun e => absurd e (h b (List.mem_cons_self ..)), ih t (fun x hx => h x (List.mem_cons_of_mem _ hx)) ht⟩
theorem brs_escs : ∀ cs : List Nat, (∀ c ∈ cs, Sign c) → Brs (escs cs) := by
  intro cs
  induction cs with
  | nil => intro _; exact trivial
  | cons c cs ih =>
    intro h
    have e : escs (c :: cs) = esc c ++ escs cs := by simp [escs]
    have ht := ih fun x hx => h x (List.mem_cons_of_mem _ hx)
    rw [e]
    by_cases c5 : c = 10
    · subst c5
      have h1 : esc 10 = [60, 66, 82, 62] := rfl
      rw [h1]
      exact ⟨fun _ => rfl, fun e => absurd e (by decide), fun e => absurd e (by decide), fun e => absurd e (by decide), ht⟩
    · refine brs_own _ _ ?_ ht
      unfold esc
      by_cases c1 : c = 38
      · rw [if_pos c1]; decide
      · rw [if_neg c1]
        by_cases c2 : c = 60
        · rw [if_pos c2]; decide
        · rw [if_neg c2]
          by_cases c3 : c = 62
          · rw [if_pos c3]; decide
          · rw [if_neg c3]
            by_cases c4 : c = 34
            · rw [if_pos c4]; decide
            · rw [if_neg c4, if_neg c5]
              exact fun b hb => (enc_own c (h c (List.mem_cons_self ..)) c2 c1 b hb).1
theorem brs_at : ∀ (l : List UInt8) (i : Nat), Brs l → i < l.length → l.getD i 0 = 60 → (l.drop i).take 4 = [60, 66, 82, 62] := by
  intro l
  induction l with
  | nil => intro i _ h; exact absurd h (Nat.not_lt_zero _)
  | cons b t ih =>
    intro i h hi he
    cases i with
    | zero => exact h.1 he
    | succ i => exact ih i h.2 (by simpa using hi) he
theorem short_true (k : Nat) (s : ByteArray) (m n : Int) (hk : 64 ≤ k) : wharflaw16_ShadeShort.j0 (k + 1) s m n true = some true := by
  simp only [wharflaw16_ShadeShort.j0]
  rw [if_pos trivial, live k hk]
  rfl
theorem short_loop (s x : ByteArray) (hx : x.size ≤ 100000) (hb : Brs (L x)) (r : ByteArray) (hr : shade_FromHtml.f x = some r) (h1 : r.size ≤ s.size) (h2 : L (s.extract 0 r.size) = L r) : ∀ (d i k : Nat), i + d = x.size → d + 64 < k → wharflaw16_ShadeShort.l0 k s x (i : Int) = some true := by
  intro d
  induction d with
  | zero =>
    intro i k hi hk
    obtain ⟨k, rfl⟩ : ∃ m, k = m + 1 := ⟨k - 1, by omega⟩
    simp only [wharflaw16_ShadeShort.l0]
    rw [if_neg (by omega), hr, Option.bind_some, if_pos (by omega), if_pos (by omega), toList_L, toList_L, h2, if_pos rfl, live k (by omega)]
    rfl
  | succ d ih =>
    intro i k hi hk
    obtain ⟨k, rfl⟩ : ∃ m, k = m + 1 := ⟨k - 1, by omega⟩
    have go := ih (i + 1) k (by omega) (by omega)
    have w1 : wrap64 ((i : Int) + 1) = ((i + 1 : Nat) : Int) := by rw [wrap_id _ (by omega) (by omega)]; omega
    have w4 : wrap64 ((i : Int) + 4) = ((i + 4 : Nat) : Int) := by rw [wrap_id _ (by omega) (by omega)]; omega
    simp only [wharflaw16_ShadeShort.l0]
    rw [if_pos (by omega), if_pos (by omega), w1, w4, bt_L, Int.toNat_natCast, Int.toNat_natCast]
    by_cases c : (L x).getD i 0 = 60
    · have hat := brs_at (L x) i hb (by rw [← size_L]; omega) c
      have hlen := congrArg List.length hat
      rw [List.length_take, List.length_drop, ← size_L] at hlen
      simp only [List.length_cons, List.length_nil] at hlen
      rw [c, if_pos (by decide), if_neg (by omega), if_pos (by omega), if_pos (by omega), toList_L, L_extract, show i + 4 - i = 4 by omega, hat, if_pos rfl]
      exact go
    · rw [if_neg (fun e => c (UInt8.toNat_inj.mp (by show ((L x).getD i 0).toNat = 60; omega)))]
      exact go
theorem ShadeShort : ∀ (a0 : ByteArray) (a1 : Int) (a2 : Int), a0.size ≤ 1048575 → (Lit.int .i64 a1).wf = true → (Lit.int .i64 a2).wf = true → ∃ k, wharflaw16_ShadeShort.f k a0 a1 a2 = some true := by
  intro s m n hs _ _
  obtain ⟨K, hK⟩ : ∃ K : Nat, K = 3000000 := ⟨_, rfl⟩
  refine ⟨K + 3, ?_⟩
  have tr := short_true (K + 2) s m n (by omega)
  unfold wharflaw16_ShadeShort.f
  by_cases ht : ∃ cs, Text cs (L s)
  · obtain ⟨cs, ht⟩ := ht
    obtain ⟨r, hr⟩ := Signs_ok ht (by omega) (K + 3) (by omega)
    rw [hr, Option.bind_some]
    dsimp only
    by_cases c1 : (s.size : Int) > 5000
    · rw [if_pos c1]; exact tr
    rw [if_neg c1, if_pos rfl]
    by_cases c2 : m < 0
    · rw [if_pos c2]; exact tr
    rw [if_neg c2]
    by_cases c3 : m > 5000
    · rw [if_pos c3]; exact tr
    rw [if_neg c3]
    by_cases c4 : n < 0
    · rw [if_pos c4]; exact tr
    rw [if_neg c4]
    by_cases c5 : n > 5000
    · rw [decide_eq_true c5]; exact tr
    rw [decide_eq_false c5]
    have he := Text.encs ht
    have hall := Text.all ht
    have ea : toH m (s.size + 1) (L s) [] = escs (fit m cs 0) := by
      rw [toH_fit m (by omega) (by omega) cs (L s) (s.size + 1) [] ht (by rw [← size_L]; omega) (by simp)]
      rfl
    have eb : toH (m + n) (s.size + 1) (L s) [] = escs (fit (m + n) cs 0) := by
      rw [toH_fit (m + n) (by omega) (by omega) cs (L s) (s.size + 1) [] ht (by rw [← size_L]; omega) (by simp)]
      rfl
    obtain ⟨vs, hfront⟩ := fit_front m cs 0
    obtain ⟨us, hmore⟩ := fit_more m (m + n) (by omega) cs 0
    have hlen := fit_len m cs 0 (by omega)
    generalize hq : fit m cs 0 = q at *
    obtain ⟨a, ha⟩ : ∃ a : ByteArray, a = ⟨(escs q).toArray⟩ := ⟨_, rfl⟩
    have la : L a = escs q := by rw [ha, L_mk]
    obtain ⟨b, hb⟩ : ∃ b : ByteArray, b = ⟨(escs (q ++ us)).toArray⟩ := ⟨_, rfl⟩
    have lb : L b = escs q ++ escs us := by rw [hb, L_mk]; simp [escs]
    have sa : a.size = (escs q).length := by rw [size_L, la]
    have sb : b.size = (escs q).length + (escs us).length := by rw [size_L, lb, List.length_append]
    have hq2 : ∀ c ∈ q, Sign c ∧ Plain c := fun c hc => hall c (by rw [hfront]; exact List.mem_append_left _ hc)
    obtain ⟨ds, hds⟩ := escs_text q hq2
    obtain ⟨r2, hr2⟩ := Signs_ok (s := a) (by rw [la]; exact hds) (by omega) (K + 2) (by omega)
    simp only [wharflaw16_ShadeShort.j0]
    rw [if_neg Bool.false_ne_true, wrap_id _ (by omega) (by omega), ToHtml_eq s m (by omega), ToHtml_eq s (m + n) (by omega), Option.bind_some, Option.bind_some, ea, eb, hmore, ← ha, ← hb, hr2, Option.bind_some, if_neg (by omega), if_neg (by omega), if_pos (by omega), if_pos (by omega), toList_L, toList_L, L_head, lb, la, sa, List.take_left, if_pos rfl]
    show wharflaw16_ShadeShort.j1 (K + 1 + 1) s a false = some true
    simp only [wharflaw16_ShadeShort.j1]
    rw [if_neg Bool.false_ne_true]
    have hesc := escs_len cs
    have hF := FHtml.FromHtml_eq a (by omega)
    rw [la, from_escs q _ [] (fun c hc => (hq2 c hc).1) (by omega), List.nil_append] at hF
    have hsz : s.size = (encs q).length + (encs vs).length := by rw [size_L, he, hfront]; simp [SFit.encs]
    have hz : (⟨(encs q).toArray⟩ : ByteArray).size = (encs q).length := by rw [size_L, L_mk]
    have hls : L s = encs q ++ encs vs := by rw [he, hfront]; simp [SFit.encs]
    exact short_loop s a (by omega) (by rw [la]; exact brs_escs q fun c hc => (hq2 c hc).1) _ hF (by omega) (by rw [L_head, hls, hz, List.take_left, L_mk]) a.size 0 (K + 1) (by omega) (by omega)
  · have hr := Signs_no ht (by omega) (K + 3) (by omega)
    rw [hr, Option.bind_some]
    dsimp only
    by_cases c1 : (s.size : Int) > 5000
    · rw [if_pos c1]; exact tr
    rw [if_neg c1, if_neg Bool.false_ne_true]
    exact tr
end Go.Proofs.Ytaaoaikfkgbfhaa.Pure
