/-
  The reference's signs are those of the program: what wharfref01.Put, First and Signs compute.
-/
import Derived.Test.YtaplfbnjoifggaaTexts
import Derived.Test.YtaplfbnjoifggaaHx14
import Derived.Test.YtaplfbnjoifggaaHx16
namespace Go.Proofs.Ytaplfbnjoifggaa.Utf
open Go.RowKit Go.Proofs.YtaplfbnjoifggaaW.PrintWords Go.Proofs.Ytaplfbnjoifggaa.Bytes Go.Lib Go.Proofs.Ytaplfbnjoifggaa.H

theorem tdiv_nat (n m : Nat) : Int.tdiv (n : Int) (m : Int) = ((n / m : Nat) : Int) := by
  rw [Int.tdiv_eq_ediv_of_nonneg (by omega)]; rfl
theorem tmod_nat (n m : Nat) : Int.tmod (n : Int) (m : Int) = ((n % m : Nat) : Int) := by
  rw [Int.tmod_eq_emod_of_nonneg (by omega)]; rfl
theorem ofi {x : Int} (y : Nat) (h : x = (y : Int)) : UInt8.ofNat x.toNat = UInt8.ofNat y := by rw [h]; rfl
theorem w1 (k : Int) (m : Nat) (h0 : 0 ≤ k) (h : k + m < 256) : (wrap64 (k + wrap64 (m : Int))) % 256 = k + (m : Int) := by
  rw [wrap_id (m : Int) (by omega) (by omega), wrap_id _ (by omega) (by omega)]
  omega
theorem w2 (k : Int) (m : Nat) (h0 : 0 ≤ k) (h : k + m < 256) : (wrap64 (k + (m : Int))) % 256 = k + (m : Int) := by
  rw [wrap_id _ (by omega) (by omega)]
  omega
theorem vdiv (n m : Nat) (h : n ≤ 1114111) : wrap64 ((n / m : Nat) : Int) = ((n / m : Nat) : Int) := by
  have h1 : n / m ≤ 1114111 := Nat.le_trans (Nat.div_le_self n m) h
  generalize n / m = q at h1 ⊢
  exact wrap_id _ (by omega) (by omega)
theorem z64_ (n : Nat) : (wrap64 (128 + ((n % 64 : Nat) : Int))) % 256 = 128 + ((n % 64 : Nat) : Int) := w2 128 (n % 64) (by omega) (by omega)
theorem xdiv (k : Int) (n m : Nat) (h0 : 0 ≤ k) (h : k + ((n / m : Nat) : Int) < 256) : (wrap64 (k + wrap64 ((n / m : Nat) : Int))) % 256 = k + ((n / m : Nat) : Int) := w1 k (n / m) h0 h
theorem refPut_eq (c : Int) : wharfref01_Put.f c = some (if 0 ≤ c ∧ Sign c.toNat then (Utf8.encode c, 0) else (⟨#[]⟩, 10)) := by
  unfold wharfref01_Put.f wharfref01_Is.f
  by_cases h : 0 ≤ c ∧ Sign c.toNat
  · obtain ⟨n, rfl⟩ : ∃ n : Nat, c = (n : Int) := ⟨c.toNat, by omega⟩
    obtain ⟨_, hs⟩ := h
    rw [Int.toNat_natCast] at hs
    have hs' := hs
    unfold Sign at hs'
    have his : (if (n : Int) ≥ 0 then (if (n : Int) ≤ 1114111 then (if (n : Int) < 55296 then some true else some (decide ((n : Int) > 57343))) else some false) else some false) = some true := by
      rw [if_pos (by omega), if_pos (by omega)]
      split
      · rfl
      · rw [decide_eq_true (by omega)]
    rw [his]
    simp only [Option.bind_some, if_true]
    have hr : (if 0 ≤ (n : Int) ∧ Sign (n : Int).toNat then (Utf8.encode (n : Int), (0 : Int)) else (⟨#[]⟩, 10)) = (Utf8.encode (n : Int), 0) := if_pos ⟨by omega, by rwa [Int.toNat_natCast]⟩
    rw [hr]
    have e := enc_encode n hs
    have fin : ∀ x : ByteArray, L x = enc n → some (x, (0 : Int)) = some (Utf8.encode (n : Int), 0) := fun x hx => by
      rw [L_inj (hx.trans e.symm)]
    have hn : n ≤ 1114111 := by omega
    have x64 : n < 2048 → (192 : Int) + ((n / 64 : Nat) : Int) < 256 := fun h => by omega
    have x4096 : n < 65536 → (224 : Int) + ((n / 4096 : Nat) : Int) < 256 := fun h => by omega
    have x262144 : (240 : Int) + ((n / 262144 : Nat) : Int) < 256 := by omega
    have p1 : ((n : Int) < 128) ↔ n < 128 := by omega
    have p2 : ((n : Int) < 2048) ↔ n < 2048 := by omega
    have p3 : ((n : Int) < 65536) ↔ n < 65536 := by omega
    have t64 : Int.tdiv (n : Int) 64 = ((n / 64 : Nat) : Int) := tdiv_nat n 64
    have t4096 : Int.tdiv (n : Int) 4096 = ((n / 4096 : Nat) : Int) := tdiv_nat n 4096
    have t262144 : Int.tdiv (n : Int) 262144 = ((n / 262144 : Nat) : Int) := tdiv_nat n 262144
    have m64 : Int.tmod (n : Int) 64 = ((n % 64 : Nat) : Int) := tmod_nat n 64
    have q64 : Int.tmod ((n / 64 : Nat) : Int) 64 = ((n / 64 % 64 : Nat) : Int) := tmod_nat (n / 64) 64
    have q4096 : Int.tmod ((n / 4096 : Nat) : Int) 64 = ((n / 4096 % 64 : Nat) : Int) := tmod_nat (n / 4096) 64
    have v64 := vdiv n 64 hn
    have v4096 := vdiv n 4096 hn
    have z64 := z64_ n
    have y64 := z64_ (n / 64)
    have y4096 := z64_ (n / 4096)
    by_cases h1 : n < 128
    · rw [if_pos (p1.mpr h1)]
      apply fin
      unfold enc
      rw [if_pos h1, L_nums]
      simp only [List.map_cons, List.map_nil]
      rw [ofi n (Int.emod_eq_of_lt (Int.natCast_nonneg n) (Int.lt_trans (p1.mpr h1) (by decide)))]
    · rw [if_neg (fun h => h1 (p1.mp h))]
      by_cases h2 : n < 2048
      · rw [if_pos (p2.mpr h2)]
        apply fin
        unfold enc
        rw [if_neg h1, if_pos h2, L_nums, t64, m64, xdiv 192 n 64 (by decide) (x64 h2), z64]
        rfl
      · rw [if_neg (fun h => h2 (p2.mp h))]
        by_cases h3 : n < 65536
        · rw [if_pos (p3.mpr h3)]
          apply fin
          unfold enc
          rw [if_neg h1, if_neg h2, if_pos h3, L_nums, t64, m64, t4096, xdiv 224 n 4096 (by decide) (x4096 h3), v64, q64, y64, z64]
          rfl
        · rw [if_neg (fun h => h3 (p3.mp h))]
          apply fin
          unfold enc
          rw [if_neg h1, if_neg h2, if_neg h3, L_nums, t64, m64, t4096, t262144, xdiv 240 n 262144 (by decide) x262144, v64, v4096, q64, q4096, y64, y4096, z64]
          rfl
  · rw [if_neg h]
    have hn : (if c ≥ 0 then (if c ≤ 1114111 then (if c < 55296 then some true else some (decide (c > 57343))) else some false) else some false) = some false := by
      unfold Sign at h
      by_cases h0 : c ≥ 0
      · rw [if_pos h0]
        by_cases h1 : c ≤ 1114111
        · rw [if_pos h1, if_neg (by omega), decide_eq_false (by omega)]
        · rw [if_neg h1]
      · rw [if_neg h0]
    rw [hn]
    rfl
/-- the end of the reference's reading: c is the sign, n its bytes -/
def refEnd (s : ByteArray) (n : Nat) (c : Int) : Int × Int × Int := if 0 ≤ c ∧ Sign c.toNat ∧ enc c.toNat = (L s).take n then (c, (n : Int), 0) else (0, 0, 10)
theorem ref_end (s : ByteArray) (n : Nat) (c : Int) (k : Nat) (h : n ≤ s.size) : wharfref01_First.l0 (k + 1) s (n : Int) c (n : Int) = some (refEnd s n c) := by
  simp only [wharfref01_First.l0]
  rw [if_neg (by omega), refPut_eq]
  unfold refEnd
  by_cases hs : 0 ≤ c ∧ Sign c.toNat
  · rw [if_pos hs]
    simp only [Option.bind_some, if_true]
    obtain ⟨m, rfl⟩ : ∃ m : Nat, c = (m : Int) := ⟨c.toNat, by omega⟩
    have he := enc_encode m (by simpa using hs.2)
    rw [if_pos (by omega), if_pos (by omega), toList_L, toList_L, L_head, he, Int.toNat_natCast, Int.toNat_natCast]
    by_cases heq : enc m = (L s).take n
    · rw [if_pos heq, if_pos ⟨by omega, by simpa using hs.2, heq⟩]
    · rw [if_neg heq, if_neg (fun h => heq h.2.2)]
  · rw [if_neg hs, if_neg (fun h => hs ⟨h.1, h.2.1⟩)]
    rfl
theorem ref_step (s : ByteArray) (n i : Nat) (c : Int) (k : Nat) (h : i < n) (hi : i < s.size) (hn : n ≤ 8) (c0 : 0 ≤ c) (c1 : c ≤ 1000000000) : wharfref01_First.l0 (k + 1) s (n : Int) c (i : Int) =
    if bt s (i : Int) / 64 = 2 then wharfref01_First.l0 k s (n : Int) (64 * c + bt s (i : Int) - 128) ((i + 1 : Nat) : Int) else some (0, 0, 10) := by
  have hb := bt_range s (i : Int)
  simp only [wharfref01_First.l0]
  rw [if_pos (by omega), if_pos (by omega), if_pos (by omega)]
  by_cases h1 : bt s (i : Int) < 128
  · rw [if_pos h1, if_neg (by omega)]
  · rw [if_neg h1]
    by_cases h2 : bt s (i : Int) ≥ 192
    · rw [if_pos h2, if_neg (by omega)]
    · rw [if_neg h2, if_pos (by omega), wrap_id (64 * c) (by omega) (by omega), wrap_id (bt s (i : Int)) (by omega) (by omega), wrap_id (64 * c + bt s (i : Int)) (by omega) (by omega), wrap_id _ (by omega) (by omega), wrap_id ((i : Int) + 1) (by omega) (by omega)]
      rfl
theorem byteAt (s : ByteArray) (l : List UInt8) (hl : L s = l) (i : Nat) : bt s (i : Int) = ((l.getD i 0).toNat : Int) := by
  rw [bt_L, hl, Int.toNat_natCast]
theorem refEnd_nat (s : ByteArray) (n c : Nat) (x : Int) (hx : x = (c : Int)) : refEnd s n x = if Sign c ∧ enc c = (L s).take n then ((c : Int), (n : Int), 0) else (0, 0, 10) := by
  subst hx
  unfold refEnd
  rw [Int.toNat_natCast]
  by_cases h : Sign c ∧ enc c = (L s).take n
  · rw [if_pos ⟨by omega, h⟩, if_pos h]
  · rw [if_neg (fun g => h g.2), if_neg h]
theorem enc2 (a b : UInt8) (h1 : 192 ≤ a.toNat) (h2 : a.toNat < 224) (hb : b.toNat / 64 = 2) : (Sign ((a.toNat - 192) * 64 + (b.toNat - 128)) ∧ enc ((a.toNat - 192) * 64 + (b.toNat - 128)) = [a, b]) ↔ 128 ≤ (a.toNat - 192) * 64 + (b.toNat - 128) := by
  generalize hc : (a.toNat - 192) * 64 + (b.toNat - 128) = c
  constructor
  · rintro ⟨_, h⟩
    rcases Nat.lt_or_ge c 128 with hlt | hge
    · have := congrArg List.length h
      rw [enc_length] at this
      simp [width, hlt] at this
    · exact hge
  · intro h
    refine ⟨Or.inl (by omega), ?_⟩
    unfold enc
    rw [if_neg (by omega), if_pos (by omega), u8_of a _ (by omega), u8_of b _ (by omega)]
theorem enc3 (a b d : UInt8) (h1 : 224 ≤ a.toNat) (h2 : a.toNat < 240) (hb : b.toNat / 64 = 2) (hd : d.toNat / 64 = 2) : (Sign ((a.toNat - 224) * 4096 + (b.toNat - 128) * 64 + (d.toNat - 128)) ∧ enc ((a.toNat - 224) * 4096 + (b.toNat - 128) * 64 + (d.toNat - 128)) = [a, b, d]) ↔
    2048 ≤ (a.toNat - 224) * 4096 + (b.toNat - 128) * 64 + (d.toNat - 128) ∧ Sign ((a.toNat - 224) * 4096 + (b.toNat - 128) * 64 + (d.toNat - 128)) := by
  generalize hc : (a.toNat - 224) * 4096 + (b.toNat - 128) * 64 + (d.toNat - 128) = c
  constructor
  · rintro ⟨hs, h⟩
    refine ⟨?_, hs⟩
    rcases Nat.lt_or_ge c 2048 with hlt | hge
    · have := congrArg List.length h
      rw [enc_length] at this
      unfold width at this
      split at this
      · cases this
      · cases this
    · exact hge
  · rintro ⟨h, hs⟩
    refine ⟨hs, ?_⟩
    unfold enc
    rw [if_neg (by omega), if_neg (by omega), if_pos (by omega), u8_of a _ (by omega), u8_of b _ (by omega), u8_of d _ (by omega)]
theorem enc4 (a b d e : UInt8) (h1 : 240 ≤ a.toNat) (h2 : a.toNat < 248) (hb : b.toNat / 64 = 2) (hd : d.toNat / 64 = 2) (he : e.toNat / 64 = 2) :
    (Sign ((a.toNat - 240) * 262144 + (b.toNat - 128) * 4096 + (d.toNat - 128) * 64 + (e.toNat - 128)) ∧ enc ((a.toNat - 240) * 262144 + (b.toNat - 128) * 4096 + (d.toNat - 128) * 64 + (e.toNat - 128)) = [a, b, d, e]) ↔
    65536 ≤ (a.toNat - 240) * 262144 + (b.toNat - 128) * 4096 + (d.toNat - 128) * 64 + (e.toNat - 128) ∧ Sign ((a.toNat - 240) * 262144 + (b.toNat - 128) * 4096 + (d.toNat - 128) * 64 + (e.toNat - 128)) := by
  generalize hc : (a.toNat - 240) * 262144 + (b.toNat - 128) * 4096 + (d.toNat - 128) * 64 + (e.toNat - 128) = c
  constructor
  · rintro ⟨hs, h⟩
    refine ⟨?_, hs⟩
    rcases Nat.lt_or_ge c 65536 with hlt | hge
    · have := congrArg List.length h
      rw [enc_length] at this
      unfold width at this
      split at this
      · cases this
      · split at this
        · cases this
        · cases this
    · exact hge
  · rintro ⟨h, hs⟩
    refine ⟨hs, ?_⟩
    unfold enc
    rw [if_neg (by omega), if_neg (by omega), if_neg (by omega), u8_of a _ (by omega), u8_of b _ (by omega), u8_of d _ (by omega), u8_of e _ (by omega)]
/-- the answer, out of what was decoded -/
def ans (p : Nat × Nat) : Int × Int × Int := if p.1 = 65533 ∧ p.2 = 1 then (0, 0, 10) else ((p.1 : Int), (p.2 : Int), 0)
theorem ans_bad : ans (65533, 1) = (0, 0, 10) := rfl
theorem ans_ok (c n : Nat) (h : n ≠ 1) : ans (c, n) = ((c : Int), (n : Int), 0) := by
  unfold ans
  rw [if_neg (fun g => h g.2)]
theorem j2_short (s : ByteArray) (n : Nat) (c : Int) (k : Nat) (h : s.size < n) : wharfref01_First.j2 (k + 1) s (n : Int) c = some (0, 0, 10) := by
  simp only [wharfref01_First.j2]
  rw [if_pos (by omega)]
theorem j2_long (s : ByteArray) (n : Nat) (c : Int) (k : Nat) (h : n ≤ s.size) : wharfref01_First.j2 (k + 1) s (n : Int) c = wharfref01_First.l0 k s (n : Int) c ((1 : Nat) : Int) := by
  simp only [wharfref01_First.j2]
  rw [if_neg (by omega)]
  rfl
theorem class1 (s : ByteArray) (a : UInt8) (l : List UInt8) (hl : L s = a :: l) (k : Nat) (h1 : a.toNat < 128) (b1 b2 b3 : Nat) : wharfref01_First.j2 (k + 2) s 1 (a.toNat : Int) = some (ans (decodeN (l.length + 1) a.toNat b1 b2 b3)) := by
  have hsz : s.size = l.length + 1 := by rw [size_L, hl]; rfl
  have e := j2_long s 1 (a.toNat : Int) (k + 1) (by omega)
  rw [show ((1 : Nat) : Int) = 1 from rfl] at e
  rw [e, show (1 : Int) = ((1 : Nat) : Int) from rfl, ref_end s 1 _ k (by omega), refEnd_nat s 1 a.toNat _ rfl]
  have he : enc a.toNat = [a] := by unfold enc; rw [if_pos h1, u8_of a _ rfl]
  rw [if_pos ⟨Or.inl (by omega), by rw [he, hl]; rfl⟩]
  unfold decodeN
  rw [if_pos h1]
  unfold ans
  rw [if_neg (by simp; omega)]
theorem class2 (s : ByteArray) (a : UInt8) (l : List UInt8) (hl : L s = a :: l) (k : Nat) (h1 : 192 ≤ a.toNat) (h2 : a.toNat < 224) : wharfref01_First.j2 (k + 4) s 2 ((a.toNat : Int) - 192) = some (ans (decodeN (l.length + 1) a.toNat (l.getD 0 0).toNat (l.getD 1 0).toNat (l.getD 2 0).toNat)) := by
  have hsz : s.size = l.length + 1 := by rw [size_L, hl]; rfl
  have hb := byteAt s _ hl
  rw [show (2 : Int) = ((2 : Nat) : Int) from rfl]
  unfold decodeN
  rw [if_neg (by omega)]
  match l with
  | [] =>
    rw [j2_short _ _ _ _ (by simp at hsz; omega), if_neg (by simp), if_neg (by simp), if_neg (by simp)]
    rfl
  | b :: l =>
    have hb1 : bt s ((1 : Nat) : Int) = (b.toNat : Int) := hb 1
    have := b.toNat_lt
    rw [List.length_cons] at hsz
    rw [j2_long _ _ _ _ (by omega), ref_step s 2 1 _ (k + 2) (by omega) (by omega) (by omega) (by omega) (by omega), hb1, List.getD_cons_zero, List.length_cons]
    by_cases hc : b.toNat / 64 = 2
    · rw [if_pos (by omega), if_pos ⟨by omega, by omega, hc⟩]
      rw [ref_end s 2 _ (k + 1) (by omega), refEnd_nat s 2 ((a.toNat - 192) * 64 + (b.toNat - 128)) _ (by omega), hl, show List.take 2 (a :: b :: l) = [a, b] from rfl]
      have e2 := enc2 a b h1 h2 hc
      have ee : a.toNat % 32 * 64 + b.toNat % 64 = (a.toNat - 192) * 64 + (b.toNat - 128) := by omega
      rw [ee]
      by_cases hg : 128 ≤ (a.toNat - 192) * 64 + (b.toNat - 128)
      · rw [if_pos (e2.mpr hg), if_pos hg, ans_ok _ _ (by decide)]
      · rw [if_neg (fun h => hg (e2.mp h)), if_neg hg]
        rfl
    · rw [if_neg (by omega), if_neg (fun h => hc h.2.2), if_neg (by omega), if_neg (by omega)]
      rfl
theorem class3 (s : ByteArray) (a : UInt8) (l : List UInt8) (hl : L s = a :: l) (k : Nat) (h1 : 224 ≤ a.toNat) (h2 : a.toNat < 240) : wharfref01_First.j2 (k + 4) s 3 ((a.toNat : Int) - 224) = some (ans (decodeN (l.length + 1) a.toNat (l.getD 0 0).toNat (l.getD 1 0).toNat (l.getD 2 0).toNat)) := by
  have hsz : s.size = l.length + 1 := by rw [size_L, hl]; rfl
  have hb := byteAt s _ hl
  rw [show (3 : Int) = ((3 : Nat) : Int) from rfl]
  unfold decodeN
  rw [if_neg (by omega), if_neg (by omega)]
  match l with
  | [] =>
    rw [j2_short _ _ _ _ (by simp at hsz; omega), if_neg (by simp), if_neg (by simp)]
    rfl
  | [b] =>
    rw [j2_short _ _ _ _ (by simp at hsz; omega), if_neg (by simp), if_neg (by simp)]
    rfl
  | b :: d :: l =>
    have hb1 : bt s ((1 : Nat) : Int) = (b.toNat : Int) := hb 1
    have hb2 : bt s ((2 : Nat) : Int) = (d.toNat : Int) := hb 2
    have := b.toNat_lt
    have := d.toNat_lt
    rw [List.length_cons, List.length_cons] at hsz
    rw [j2_long _ _ _ _ (by omega), ref_step s 3 1 _ (k + 2) (by omega) (by omega) (by omega) (by omega) (by omega), hb1, List.getD_cons_zero, List.getD_cons_succ, List.getD_cons_zero, List.length_cons, List.length_cons]
    by_cases hc : b.toNat / 64 = 2
    · rw [if_pos (by omega)]
      rw [show ((1 + 1 : Nat) : Int) = ((2 : Nat) : Int) from rfl, ref_step s 3 2 _ (k + 1) (by omega) (by omega) (by omega) (by omega) (by omega), hb2]
      by_cases hd : d.toNat / 64 = 2
      · rw [if_pos (by omega), if_pos ⟨by omega, ⟨by omega, hc⟩, by omega, hd⟩]
        rw [show ((2 + 1 : Nat) : Int) = ((3 : Nat) : Int) from rfl, ref_end s 3 _ k (by omega), refEnd_nat s 3 ((a.toNat - 224) * 4096 + (b.toNat - 128) * 64 + (d.toNat - 128)) _ (by omega), hl, show List.take 3 (a :: b :: d :: l) = [a, b, d] from rfl]
        have e3 := enc3 a b d h1 h2 hc hd
        have ee : a.toNat % 16 * 4096 + b.toNat % 64 * 64 + d.toNat % 64 = (a.toNat - 224) * 4096 + (b.toNat - 128) * 64 + (d.toNat - 128) := by omega
        rw [ee]
        generalize (a.toNat - 224) * 4096 + (b.toNat - 128) * 64 + (d.toNat - 128) = c at e3 ⊢
        by_cases hg : c ≥ 2048 ∧ (c < 55296 ∨ 57344 ≤ c ∧ c ≤ 1114111)
        · rw [if_pos (e3.mpr hg), if_pos hg, ans_ok _ _ (by decide)]
        · rw [if_neg (fun h => hg (e3.mp h)), if_neg hg]
          rfl
      · rw [if_neg (by omega), if_neg (fun h => hd h.2.2.2), if_neg (by omega)]
        rfl
    · rw [if_neg (by omega), if_neg (fun h => hc h.2.1.2), if_neg (by omega)]
      rfl
theorem class4 (s : ByteArray) (a : UInt8) (l : List UInt8) (hl : L s = a :: l) (k : Nat) (h1 : 240 ≤ a.toNat) (h2 : a.toNat < 248) : wharfref01_First.j2 (k + 5) s 4 ((a.toNat : Int) - 240) = some (ans (decodeN (l.length + 1) a.toNat (l.getD 0 0).toNat (l.getD 1 0).toNat (l.getD 2 0).toNat)) := by
  have hsz : s.size = l.length + 1 := by rw [size_L, hl]; rfl
  have hb := byteAt s _ hl
  rw [show (4 : Int) = ((4 : Nat) : Int) from rfl]
  unfold decodeN
  rw [if_neg (by omega), if_neg (by omega), if_neg (by omega)]
  match l with
  | [] =>
    rw [j2_short _ _ _ _ (by simp at hsz; omega), if_neg (by simp)]
    rfl
  | [b] =>
    rw [j2_short _ _ _ _ (by simp at hsz; omega), if_neg (by simp)]
    rfl
  | [b, d] =>
    rw [j2_short _ _ _ _ (by simp at hsz; omega), if_neg (by simp)]
    rfl
  | b :: d :: e :: l =>
    have hb1 : bt s ((1 : Nat) : Int) = (b.toNat : Int) := hb 1
    have hb2 : bt s ((2 : Nat) : Int) = (d.toNat : Int) := hb 2
    have hb3 : bt s ((3 : Nat) : Int) = (e.toNat : Int) := hb 3
    have := b.toNat_lt
    have := d.toNat_lt
    have := e.toNat_lt
    rw [List.length_cons, List.length_cons, List.length_cons] at hsz
    rw [j2_long _ _ _ _ (by omega), ref_step s 4 1 _ (k + 3) (by omega) (by omega) (by omega) (by omega) (by omega), hb1, List.getD_cons_zero, List.getD_cons_succ, List.getD_cons_zero, List.getD_cons_succ, List.getD_cons_succ, List.getD_cons_zero, List.length_cons, List.length_cons, List.length_cons]
    by_cases hc : b.toNat / 64 = 2
    · rw [if_pos (by omega)]
      rw [show ((1 + 1 : Nat) : Int) = ((2 : Nat) : Int) from rfl, ref_step s 4 2 _ (k + 2) (by omega) (by omega) (by omega) (by omega) (by omega), hb2]
      by_cases hd : d.toNat / 64 = 2
      · rw [if_pos (by omega)]
        rw [show ((2 + 1 : Nat) : Int) = ((3 : Nat) : Int) from rfl, ref_step s 4 3 _ (k + 1) (by omega) (by omega) (by omega) (by omega) (by omega), hb3]
        by_cases he : e.toNat / 64 = 2
        · rw [if_pos (by omega), if_pos ⟨by omega, ⟨by omega, hc⟩, ⟨by omega, hd⟩, by omega, he⟩]
          rw [show ((3 + 1 : Nat) : Int) = ((4 : Nat) : Int) from rfl, ref_end s 4 _ k (by omega), refEnd_nat s 4 ((a.toNat - 240) * 262144 + (b.toNat - 128) * 4096 + (d.toNat - 128) * 64 + (e.toNat - 128)) _ (by omega), hl, show List.take 4 (a :: b :: d :: e :: l) = [a, b, d, e] from rfl]
          have e4 := enc4 a b d e h1 h2 hc hd he
          have ee : a.toNat % 8 * 262144 + b.toNat % 64 * 4096 + d.toNat % 64 * 64 + e.toNat % 64 = (a.toNat - 240) * 262144 + (b.toNat - 128) * 4096 + (d.toNat - 128) * 64 + (e.toNat - 128) := by omega
          rw [ee]
          generalize (a.toNat - 240) * 262144 + (b.toNat - 128) * 4096 + (d.toNat - 128) * 64 + (e.toNat - 128) = c at e4 ⊢
          by_cases hg : c ≥ 65536 ∧ (c < 55296 ∨ 57344 ≤ c ∧ c ≤ 1114111)
          · rw [if_pos (e4.mpr hg), if_pos hg, ans_ok _ _ (by decide)]
          · rw [if_neg (fun h => hg (e4.mp h)), if_neg hg]
            rfl
        · rw [if_neg (by omega), if_neg (fun h => he h.2.2.2.2)]
          rfl
      · rw [if_neg (by omega), if_neg (fun h => hd h.2.2.1.2)]
        rfl
    · rw [if_neg (by omega), if_neg (fun h => hc h.2.1.2)]
      rfl
/-- the reference's First is the sign at the front. -/
theorem refFirst_eq (s : ByteArray) (k : Nat) (hk : 12 ≤ k) : wharfref01_First.f k s = some (firstAns (L s)) := by
  obtain ⟨k, rfl⟩ : ∃ m, k = m + 12 := ⟨k - 12, by omega⟩
  unfold wharfref01_First.f
  rw [toList_L]
  match hl : L s with
  | [] => rw [if_pos rfl]; rfl
  | a :: l =>
    have ha := a.toNat_lt
    have hsz : s.size = l.length + 1 := by rw [size_L, hl]; rfl
    have h0 : bt s 0 = (a.toNat : Int) := byteAt s _ hl 0
    have hw : wrap64 (a.toNat : Int) = (a.toNat : Int) := wrap_id _ (by omega) (by omega)
    rw [if_neg (by simp), if_pos (by omega), h0, hw]
    have hfa : firstAns (a :: l) = ans (decodeN (l.length + 1) a.toNat (l.getD 0 0).toNat (l.getD 1 0).toNat (l.getD 2 0).toNat) := by
      have e := decodeL_N (a :: l)
      rw [List.getD_cons_zero, List.getD_cons_succ, List.getD_cons_succ, List.getD_cons_succ, List.length_cons] at e
      rw [← e]
      unfold firstAns sgn ans
      rw [if_neg (by simp)]
      by_cases hc : (decodeL (a :: l)).1 = 65533 ∧ (decodeL (a :: l)).2 = 1
      · rw [if_pos hc, if_pos hc]
      · rw [if_neg hc, if_neg hc]
    rw [hfa]
    by_cases h1 : a.toNat < 128
    · rw [if_pos (by omega)]
      exact class1 s a l hl (k + 10) h1 _ _ _
    · rw [if_neg (by omega)]
      have bad : a.toNat < 192 ∨ 248 ≤ a.toNat → ans (decodeN (l.length + 1) a.toNat (l.getD 0 0).toNat (l.getD 1 0).toNat (l.getD 2 0).toNat) = (0, 0, 10) := by
        intro h
        unfold decodeN
        rw [if_neg (by omega), if_neg (by omega), if_neg (by omega), if_neg (by omega)]
        rfl
      by_cases h2 : a.toNat < 192
      · rw [if_neg (by omega), bad (Or.inl h2)]
        simp only [wharfref01_First.j0]
        rw [if_neg (by decide), if_neg (by omega)]
        simp only [wharfref01_First.j1]
        rw [if_neg (by decide), if_neg (by omega)]
      · rw [if_pos (by omega)]
        simp only [wharfref01_First.j0]
        by_cases h3 : a.toNat < 224
        · rw [decide_eq_true (by omega), if_pos rfl, wrap_id ((a.toNat : Int) - 192) (by omega) (by omega)]
          exact class2 s a l hl (k + 7) (by omega) h3
        · rw [decide_eq_false (by omega), if_neg (by decide), if_pos (by omega)]
          simp only [wharfref01_First.j1]
          by_cases h4 : a.toNat < 240
          · rw [decide_eq_true (by omega), if_pos rfl, wrap_id ((a.toNat : Int) - 224) (by omega) (by omega)]
            exact class3 s a l hl (k + 6) (by omega) h4
          · rw [decide_eq_false (by omega), if_neg (by decide), if_pos (by omega)]
            by_cases h5 : a.toNat < 248
            · rw [if_pos (by omega), wrap_id ((a.toNat : Int) - 240) (by omega) (by omega)]
              exact class4 s a l hl (k + 5) (by omega) h5
            · rw [if_neg (by omega), bad (Or.inr (by omega))]
end Go.Proofs.Ytaplfbnjoifggaa.Utf
