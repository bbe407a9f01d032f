/-
  What package flap's reference reads out of bytes, in plain terms.
-/
import Derived.Test.YthncdeeakhilfaaFlap
import Derived.Test.YthncdeeakhilfaaHx13
import Derived.Test.YthncdeeakhilfaaHx14
import Derived.Test.YthncdeeakhilfaaHx20003
namespace Go.Proofs.Ythncdeeakhilfaa.Flap
open Go.RowKit Go.Proofs.Ythncdeeakhilfaa.H Go.Proofs.YthncdeeakhilfaaW.PrintWords Go.Proofs.Ythncdeeakhilfaa.Tlv Go.Proofs.Ythncdeeakhilfaa.Bytes

/-! ### reading -/
def at_ (l : List UInt8) (i : Nat) : Int := ((l.getD i 0).toNat : Int)
def two (l : List UInt8) (i : Nat) : Int := num ((l.drop i).take 2) 0
def Bad (l : List UInt8) : Prop := (1 ≤ l.length ∧ at_ l 0 ≠ 42) ∨ (2 ≤ l.length ∧ (at_ l 1 < 1 ∨ 5 < at_ l 1))
instance (l : List UInt8) : Decidable (Bad l) := inferInstanceAs (Decidable (_ ∨ _))
/-- the frame at the front of bytes: (what is wrong, the frame and what is behind it) -/
def parse1 (w : Int) (l : List UInt8) : Int × Option (Fr × List UInt8) :=
  if Bad l then (120, none)
  else if l.length < 4 then (0, none)
  else if 0 ≤ w ∧ two l 2 ≠ w then (121, none)
  else if l.length < 6 then (0, none)
  else if 8192 < two l 4 then (1, none)
  else if (l.length : Int) < 6 + two l 4 then (0, none)
  else (0, some (⟨at_ l 1, two l 2, ⟨((l.drop 6).take (two l 4).toNat).toArray⟩⟩, l.drop (6 + (two l 4).toNat)))
def allW : Nat → Int → List UInt8 → List Fr → List Fr × Int × Int
  | 0, _, _, out => (out, 0, 0)
  | k + 1, w, l, out => match parse1 w l with
    | (e, none) => if e = 0 then (out, 0, (l.length : Int)) else (out, e, 0)
    | (_, some (f, rest)) => allW k (flapNext f.f1) rest (out ++ [f])
def wantOf (out : List Fr) : Int := match out.getLast? with
  | none => -1
  | some f => flapNext f.f1
theorem two_bound (l : List UInt8) (i : Nat) (h : i + 2 ≤ l.length) : 0 ≤ two l i ∧ two l i < 65536 := by
  have hz : (⟨((l.drop i).take 2).toArray⟩ : ByteArray).size = 2 := by
    rw [size_L, L_mk, List.length_take, List.length_drop]
    omega
  have := num_fits ⟨((l.drop i).take 2).toArray⟩ (Or.inr (Or.inl hz))
  rw [hz, L_mk] at this
  obtain ⟨h0, h1⟩ := (fits_iff _ _).mp this
  unfold two
  omega
theorem refTwo (x : ByteArray) (i : Nat) (h : i + 2 ≤ x.size) (k : Nat) (hk : 8 ≤ k) : wharfref11_Num.f k (x.extract i (i + 2)) = some (two (L x) i, 0) := by
  have hz : (x.extract i (i + 2)).size = 2 := by rw [ByteArray.size_extract]; omega
  rw [refNum_eq _ k hk]
  unfold numAns two
  rw [if_pos (Or.inr (Or.inl hz)), L_extract, show i + 2 - i = 2 by omega]
theorem last_want (out : List Fr) (h : 0 < out.length) (hl : out.length ≤ 1000000) : wharfref12_Next.f (rd_T37 out (wrap64 ((out.length : Int) - 1))).f1 = some (wantOf out) := by
  rw [refNext_eq, wrap_id _ (by omega) (by omega)]
  have hne : out ≠ [] := fun e => by rw [e] at h; simp at h
  unfold wantOf rd_T37
  rw [List.getLast?_eq_getElem?, show ((out.length : Int) - 1).toNat = out.length - 1 by omega, List.getD_eq_getElem?_getD, List.getElem?_eq_getElem (show out.length - 1 < out.length by omega)]
  rfl
theorem All_l0 (k : Nat) (x : ByteArray) (out : List Fr) : wharfref12_All.l0 (k + 1) x out = wharfref12_All.j1 k x out (x.size : Int) (decide (Bad (L x))) := by
  have hsz : (L x).length = x.size := rfl
  have b0 : bt x 0 = at_ (L x) 0 := by rw [bt_L]; rfl
  have b1 : bt x 1 = at_ (L x) 1 := by rw [bt_L]; rfl
  simp only [wharfref12_All.l0]
  by_cases n1 : (x.size : Int) ≥ 1
  · rw [if_pos n1, if_pos (show (0 : Int) < (x.size : Int) by omega), b0]
    by_cases c0 : at_ (L x) 0 = 42
    · rw [if_pos c0]
      by_cases n2 : (x.size : Int) ≥ 2
      · rw [if_pos n2, if_pos (show (1 : Int) < (x.size : Int) by omega), b1]
        by_cases c1 : at_ (L x) 1 < 1
        · rw [if_pos c1, decide_eq_true (show Bad (L x) from Or.inr ⟨by omega, Or.inl c1⟩)]
        · rw [if_neg c1]
          by_cases c2 : at_ (L x) 1 > 5
          · rw [decide_eq_true c2, decide_eq_true (show Bad (L x) from Or.inr ⟨by omega, Or.inr c2⟩)]
          · rw [decide_eq_false c2, decide_eq_false (show ¬ Bad (L x) from fun h => by rcases h with h | h <;> omega)]
      · rw [if_neg n2, decide_eq_false (show ¬ Bad (L x) from fun h => by rcases h with h | h <;> omega)]
    · rw [if_neg c0, decide_eq_true (show Bad (L x) from Or.inl ⟨by omega, c0⟩)]
  · rw [if_neg n1, if_neg (show ¬ (x.size : Int) ≥ 2 by omega), decide_eq_false (show ¬ Bad (L x) from fun h => by rcases h with h | h <;> omega)]
theorem next_ge (n : Int) : 0 ≤ flapNext n := by
  unfold flapNext
  split <;> omega
theorem want_some (out : List Fr) (h : 0 < out.length) : 0 ≤ wantOf out := by
  unfold wantOf
  cases hl : out.getLast? with
  | none => rw [List.getLast?_eq_none_iff] at hl; rw [hl] at h; simp at h
  | some f => exact next_ge _
theorem All_j1 (k : Nat) (hk : 8 ≤ k) (x : ByteArray) (out : List Fr) (ho : out.length ≤ 1000000) : wharfref12_All.j1 (k + 1) x out (x.size : Int) false =
    if x.size < 4 then some (out, 0, (x.size : Int)) else wharfref12_All.j2 k x out (x.size : Int) (two (L x) 2) (decide (0 ≤ wantOf out ∧ two (L x) 2 ≠ wantOf out)) := by
  simp only [wharfref12_All.j1]
  rw [if_neg Bool.false_ne_true]
  by_cases c : x.size < 4
  · rw [if_pos c, if_pos (by omega)]
  · rw [if_neg c, if_neg (by omega), if_pos (by decide), if_pos (by omega), refTwo x 2 (by omega) k hk, Option.bind_some]
    by_cases h : (out.length : Int) > 0
    · rw [if_pos h, wrap_id _ (by omega) (by omega), if_pos (by omega), if_pos (by omega)]
      have hw := last_want out (by omega) ho
      rw [wrap_id _ (by omega) (by omega)] at hw
      have h0 := want_some out (by omega)
      rw [hw, Option.bind_some]
      congr 1
      by_cases e : two (L x) 2 = wantOf out
      · rw [decide_eq_false (fun h => h.2 e)]
        simp [e]
      · rw [decide_eq_true (⟨h0, e⟩ : 0 ≤ wantOf out ∧ two (L x) 2 ≠ wantOf out)]
        simpa using e
    · have hnil : out = [] := List.length_eq_zero_iff.mp (by omega)
      rw [if_neg h, hnil]
      rfl
theorem All_j2 (k : Nat) (hk : 8 ≤ k) (x : ByteArray) (hx : x.size ≤ 1100000) (out : List Fr) (ho : out.length ≤ 1000000) (q : Int) : wharfref12_All.j2 (k + 1) x out (x.size : Int) q false =
    if x.size < 6 then some (out, 0, (x.size : Int)) else if 8192 < two (L x) 4 then some (out, 1, 0) else if (x.size : Int) < 6 + two (L x) 4 then some (out, 0, (x.size : Int))
    else wharfref12_All.l0 k (x.extract (6 + (two (L x) 4).toNat) x.size) (out ++ [⟨at_ (L x) 1, q, x.extract 6 (6 + (two (L x) 4).toNat)⟩]) := by
  have hsz : (L x).length = x.size := rfl
  have b1 : bt x 1 = at_ (L x) 1 := by rw [bt_L]; rfl
  have hb := bt_range x 1
  simp only [wharfref12_All.j2]
  rw [if_neg Bool.false_ne_true]
  by_cases c : x.size < 6
  · rw [if_pos c, if_pos (by omega)]
  · have h2 := two_bound (L x) 4 (by omega)
    rw [if_neg c, if_neg (by omega), if_pos (by decide), if_pos (by omega), refTwo x 4 (by omega) k hk, Option.bind_some]
    dsimp only
    by_cases c1 : two (L x) 4 > 8192
    · rw [if_pos c1, if_pos c1]
    · rw [if_neg c1, if_neg c1, wrap_id (6 + two (L x) 4) (by omega) (by omega)]
      by_cases c2 : (x.size : Int) < 6 + two (L x) 4
      · rw [if_pos c2, if_pos c2]
      · rw [if_neg c2, if_neg c2, if_pos (by omega), if_pos (by omega), if_pos (by omega), if_pos (by omega), if_pos (by omega), wrap_id (bt x 1) (by omega) (by omega), b1, show (6 + two (L x) 4).toNat = 6 + (two (L x) 4).toNat by omega]
theorem All_go : ∀ (d k : Nat) (x : ByteArray) (out : List Fr), x.size < d → 3 * d + 30 ≤ k → x.size ≤ 1100000 → out.length + d ≤ 1000000 → wharfref12_All.l0 k x out = some (allW d (wantOf out) (L x) out) := by
  intro d
  induction d with
  | zero => intro k x out h; omega
  | succ d ih =>
    intro k x out h hk hx ho
    obtain ⟨k, rfl⟩ : ∃ m, k = m + 3 := ⟨k - 3, by omega⟩
    have hsz : (L x).length = x.size := rfl
    rw [All_l0]
    simp only [allW]
    unfold parse1
    by_cases cb : Bad (L x)
    · rw [decide_eq_true cb, if_pos cb]
      simp only [wharfref12_All.j1]
      rw [if_pos trivial, if_neg (by decide)]
    · rw [decide_eq_false cb, if_neg cb, All_j1 (k + 1) (by omega) x out (by omega), hsz]
      by_cases c4 : x.size < 4
      · rw [if_pos c4, if_pos c4]
        rfl
      · rw [if_neg c4, if_neg c4]
        by_cases cw : 0 ≤ wantOf out ∧ two (L x) 2 ≠ wantOf out
        · rw [decide_eq_true cw, if_pos cw]
          simp only [wharfref12_All.j2]
          rw [if_pos trivial, if_neg (by decide)]
        · rw [decide_eq_false cw, if_neg cw, All_j2 k (by omega) x hx out (by omega)]
          by_cases c6 : x.size < 6
          · rw [if_pos c6, if_pos c6]
            rfl
          · have h2 := two_bound (L x) 4 (by omega)
            rw [if_neg c6, if_neg c6]
            by_cases c8 : 8192 < two (L x) 4
            · rw [if_pos c8, if_pos c8]
              rfl
            · rw [if_neg c8, if_neg c8]
              by_cases c9 : (x.size : Int) < 6 + two (L x) 4
              · rw [if_pos c9, if_pos c9]
                rfl
              · rw [if_neg c9, if_neg c9]
                dsimp only
                have hl := ih k (x.extract (6 + (two (L x) 4).toNat) x.size) (out ++ [⟨at_ (L x) 1, two (L x) 2, x.extract 6 (6 + (two (L x) 4).toNat)⟩]) (by rw [ByteArray.size_extract]; omega) (by omega) (by rw [ByteArray.size_extract]; omega) (by rw [List.length_append, List.length_singleton]; omega)
                rw [hl, L_tail]
                have hd : x.extract 6 (6 + (two (L x) 4).toNat) = ⟨(((L x).drop 6).take (two (L x) 4).toNat).toArray⟩ := by
                  apply L_inj
                  rw [L_extract, L_mk, show 6 + (two (L x) 4).toNat - 6 = (two (L x) 4).toNat by omega]
                rw [hd]
                congr 2
                unfold wantOf
                rw [List.getLast?_append]
                rfl
theorem All_eq (x : ByteArray) (hx : x.size ≤ 900000) (k : Nat) (hk : 3000000 ≤ k) : wharfref12_All.f k x = some (allW (x.size + 1) (-1) (L x) []) := by
  unfold wharfref12_All.f
  exact All_go (x.size + 1) k x [] (by omega) (by omega) (by omega) (by simp; omega)
end Go.Proofs.Ythncdeeakhilfaa.Flap
