/-
  Values and texts, there and back; put in parts.
-/
import Derived.Test.YtndcpbiofhclhaaTlvSmall
namespace Go.Proofs.Ytndcpbiofhclhaa.Tlv
open Go.RowKit Go.Proofs.YtndcpbiofhclhaaW.PrintWords Go.Proofs.Ytndcpbiofhclhaa.H Go.Proofs.Ytndcpbiofhclhaa.Bytes

theorem first_text (s more : ByteArray) (w : Int) (h : tlvFits s.size w = true) : first (nbytes s.size w ++ s ++ more) w = (s, more, 0) := by
  have hw := fits_w h
  have hz := bytes_size s.size w hw
  have e0 : (nbytes s.size w ++ s ++ more).extract 0 w.toNat = nbytes s.size w := by
    apply L_inj
    rw [L_head, L_append, L_append, List.append_assoc, List.take_left' (by rw [← size_L]; omega)]
  have zz : (nbytes s.size w ++ s ++ more).size = (nbytes s.size w).size + s.size + more.size := by rw [ByteArray.size_append, ByteArray.size_append]
  unfold first
  rw [if_pos hw, e0, num_bytes _ _ h, if_neg (by omega), if_neg (by omega)]
  have e1 : (nbytes s.size w ++ s ++ more).extract w.toNat (w.toNat + (s.size : Int).toNat) = s := by
    apply L_inj
    rw [L_extract, L_append, L_append, List.append_assoc, List.drop_left' (by rw [← size_L]; omega), List.take_left' (by rw [← size_L]; omega)]
  have e2 : (nbytes s.size w ++ s ++ more).extract (w.toNat + (s.size : Int).toNat) (nbytes s.size w ++ s ++ more).size = more := by
    apply L_inj
    rw [L_tail, L_append, List.drop_left' (by rw [← size_L, ByteArray.size_append]; omega)]
  rw [e1, e2]
theorem first_cut (s : ByteArray) (w : Int) (c : Nat) (h : tlvFits s.size w = true) (hc : c < (nbytes s.size w ++ s).size) : (first ((nbytes s.size w ++ s).extract 0 c) w).2.2 = 110 := by
  have hw := fits_w h
  have hz := bytes_size s.size w hw
  have hsz : (nbytes s.size w ++ s).size = (nbytes s.size w).size + s.size := ByteArray.size_append
  have zz : ((nbytes s.size w ++ s).extract 0 c).size = c := by rw [ByteArray.size_extract]; omega
  unfold first
  rw [if_pos hw]
  by_cases h0 : (c : Int) < w
  · rw [if_pos (by rw [zz]; exact h0)]
  · rw [if_neg (by rw [zz]; exact h0)]
    have e0 : ((nbytes s.size w ++ s).extract 0 c).extract 0 w.toNat = nbytes s.size w := by
      apply L_inj
      rw [L_head, L_head, List.take_take, L_append, Nat.min_eq_left (by omega), List.take_left' (by rw [← size_L]; omega)]
    rw [e0, num_bytes _ _ h, if_pos (by rw [zz]; omega)]
/-- all values' bytes -/
def cat : List S75 → ByteArray
  | [] => ⟨#[]⟩
  | x :: l => one x ++ cat l
theorem nil_append (a : ByteArray) : (⟨#[]⟩ ++ a : ByteArray) = a := ByteArray.empty_append
theorem append_nil (a : ByteArray) : (a ++ ⟨#[]⟩ : ByteArray) = a := ByteArray.append_empty
theorem cat_append (l m : List S75) : cat (l ++ m) = cat l ++ cat m := by
  induction l with
  | nil => exact (nil_append _).symm
  | cons x l ih => simp only [List.cons_append, cat, ih, ByteArray.append_assoc]
theorem putGo_all : ∀ (l : List S75) (acc : ByteArray), (∀ x ∈ l, fits1 x) → putGo l acc = (acc ++ cat l, 0)
  | [], acc, _ => by simp only [putGo, cat, append_nil]
  | x :: l, acc, h => by
    simp only [putGo, cat]
    rw [if_pos (h x (List.mem_cons_self ..)), putGo_all l _ (fun y hy => h y (List.mem_cons_of_mem _ hy)), ByteArray.append_assoc]
theorem putGo_none : ∀ (l : List S75) (acc : ByteArray), (¬ ∀ x ∈ l, fits1 x) → putGo l acc = (⟨#[]⟩, 2)
  | [], acc, h => absurd (fun x hx => by cases hx) h
  | x :: l, acc, h => by
    simp only [putGo]
    by_cases hx : fits1 x
    · rw [if_pos hx, putGo_none l _ (fun h' => h (fun y hy => by
        rcases List.mem_cons.mp hy with rfl | hy
        · exact hx
        · exact h' y hy))]
    · rw [if_neg hx]
theorem put_ok {l : List S75} (h : l.length ≤ 64) (hf : ∀ x ∈ l, fits1 x) : put l = (cat l, 0) := by
  unfold put
  rw [if_neg (by omega), putGo_all l _ hf, nil_append]
theorem put_err {l : List S75} (h : ¬ (l.length ≤ 64 ∧ ∀ x ∈ l, fits1 x)) : put l = (⟨#[]⟩, 2) ∨ put l = (⟨#[]⟩, 6) := by
  unfold put
  by_cases hl : l.length > 64
  · rw [if_pos hl]; exact Or.inr rfl
  · rw [if_neg hl, putGo_none l _ (fun hf => h ⟨by omega, hf⟩)]
    exact Or.inl rfl
theorem items_one {x : S75} (h : fits1 x) (rest : ByteArray) : items (one x ++ rest) = (x.f0, x.f1, 0) :: items rest := by
  have z1 := bytes_size x.f0 2 (by omega)
  have e0 : (one x ++ rest).extract 0 2 = nbytes x.f0 2 := by
    apply L_inj
    unfold one
    rw [L_head, L_append, L_append, List.append_assoc, List.take_left' (by rw [← size_L]; omega)]
  have e1 : (one x ++ rest).extract 2 (one x ++ rest).size = nbytes x.f1.size 2 ++ x.f1 ++ rest := by
    apply L_inj
    unfold one
    rw [L_tail, L_append, L_append, List.append_assoc, List.drop_left' (by rw [← size_L]; omega), L_append, L_append, L_append]
  have hsz : ¬ (one x ++ rest).size < 2 := by
    unfold one
    rw [ByteArray.size_append, ByteArray.size_append]
    omega
  have ht : tstep (one x ++ rest) = ((x.f0, x.f1, 0), rest) := by
    unfold tstep
    rw [e0, e1, first_text _ _ _ h.2, num_bytes _ _ h.1]
  rw [items_ok hsz (by rw [ht]), ht]
theorem items_cat : ∀ (l : List S75), (∀ x ∈ l, fits1 x) → items (cat l) = l.map fun x => (x.f0, x.f1, 0)
  | [], _ => items_nil rfl
  | x :: l, h => by
    simp only [cat, List.map_cons]
    rw [items_one (h x (List.mem_cons_self ..)), items_cat l (fun y hy => h y (List.mem_cons_of_mem _ hy))]
theorem parse_cat {l : List S75} (h : l.length ≤ 64) (hf : ∀ x ∈ l, fits1 x) : parseTlv (cat l) = (l, 0) := by
  unfold parseTlv
  rw [items_cat l hf]
  have := gather_ok (l.map fun x => ((x.f0, x.f1, 0) : TItem)) [] [] (by
    intro x hx
    obtain ⟨y, _, rfl⟩ := List.mem_map.mp hx
    rfl) (by simpa using h)
  rw [List.append_nil] at this
  rw [this]
  simp [gather, List.map_map, Function.comp_def]
theorem less_cons (a b : UInt8) (x y : List UInt8) : Op.bytesLess (a :: x) (b :: y) = decide ((a.toNat : Int) < b.toNat ∨ ((a.toNat : Int) = b.toNat ∧ Op.bytesLess x y = true)) := by
  rw [Bool.eq_iff_iff]
  simp only [Op.bytesLess, Bool.or_eq_true, Bool.and_eq_true, decide_eq_true_iff, beq_iff_eq]
  have h1 : a < b ↔ (a.toNat : Int) < b.toNat := by rw [UInt8.lt_iff_toNat_lt]; omega
  have h2 : a = b ↔ (a.toNat : Int) = b.toNat := ⟨fun e => by rw [e], fun e => UInt8.toNat.inj (by omega)⟩
  rw [h1, h2]
theorem bytes_less {n m w : Int} (hn : tlvFits n w = true) (hm : tlvFits m w = true) : Op.bytesLess (L (nbytes n w)) (L (nbytes m w)) = decide (n < m) := by
  obtain ⟨n0, hn⟩ := (fits_iff n w).mp hn
  obtain ⟨m0, hm⟩ := (fits_iff m w).mp hm
  have hw : w = 1 ∨ w = 2 ∨ w = 4 := by omega
  rw [nbytes, nbytes, L_nums, L_nums, Bool.eq_iff_iff, decide_eq_true_iff]
  rcases hw with rfl | rfl | rfl
  · show Op.bytesLess [UInt8.ofNat (n % 256).toNat] [UInt8.ofNat (m % 256).toNat] = true ↔ _
    simp only [less_cons, decide_eq_true_iff]
    rw [toNat_ofNat _ (by omega) (by omega), toNat_ofNat _ (by omega) (by omega)]
    simp only [Op.bytesLess, Bool.false_eq_true, and_false, or_false]
    omega
  · show Op.bytesLess [UInt8.ofNat (n / 256 % 256).toNat, UInt8.ofNat (n % 256).toNat] [UInt8.ofNat (m / 256 % 256).toNat, UInt8.ofNat (m % 256).toNat] = true ↔ _
    simp only [less_cons, decide_eq_true_iff]
    rw [toNat_ofNat _ (by omega) (by omega), toNat_ofNat _ (by omega) (by omega), toNat_ofNat _ (by omega) (by omega), toNat_ofNat _ (by omega) (by omega)]
    simp only [Op.bytesLess, Bool.false_eq_true, and_false, or_false]
    omega
  · show Op.bytesLess [UInt8.ofNat (n / 16777216 % 256).toNat, UInt8.ofNat (n / 65536 % 256).toNat, UInt8.ofNat (n / 256 % 256).toNat, UInt8.ofNat (n % 256).toNat] [UInt8.ofNat (m / 16777216 % 256).toNat, UInt8.ofNat (m / 65536 % 256).toNat, UInt8.ofNat (m / 256 % 256).toNat, UInt8.ofNat (m % 256).toNat] = true ↔ _
    simp only [less_cons, decide_eq_true_iff]
    rw [toNat_ofNat (n / 16777216 % 256) (by omega) (by omega), toNat_ofNat (n / 65536 % 256) (by omega) (by omega), toNat_ofNat (n / 256 % 256) (by omega) (by omega), toNat_ofNat (n % 256) (by omega) (by omega), toNat_ofNat (m / 16777216 % 256) (by omega) (by omega), toNat_ofNat (m / 65536 % 256) (by omega) (by omega), toNat_ofNat (m / 256 % 256) (by omega) (by omega), toNat_ofNat (m % 256) (by omega) (by omega)]
    simp only [Op.bytesLess, Bool.false_eq_true, and_false, or_false]
    have en : n = n / 16777216 % 256 * 16777216 + n / 65536 % 256 * 65536 + n / 256 % 256 * 256 + n % 256 := by omega
    have em : m = m / 16777216 % 256 * 16777216 + m / 65536 % 256 * 65536 + m / 256 % 256 * 256 + m % 256 := by omega
    have b : ∀ a : Int, 0 ≤ a % 256 ∧ a % 256 < 256 := fun a => by omega
    have b0 := b n
    have b1 := b (n / 256)
    have b2 := b (n / 65536)
    have b3 := b (n / 16777216)
    have c0 := b m
    have c1 := b (m / 256)
    have c2 := b (m / 65536)
    have c3 := b (m / 16777216)
    clear n0 m0 hn hm b
    generalize n % 256 = x0 at *
    generalize n / 256 % 256 = x1 at *
    generalize n / 65536 % 256 = x2 at *
    generalize n / 16777216 % 256 = x3 at *
    generalize m % 256 = y0 at *
    generalize m / 256 % 256 = y1 at *
    generalize m / 65536 % 256 = y2 at *
    generalize m / 16777216 % 256 = y3 at *
    rw [en, em]
    omega
end Go.Proofs.Ytndcpbiofhclhaa.Tlv
