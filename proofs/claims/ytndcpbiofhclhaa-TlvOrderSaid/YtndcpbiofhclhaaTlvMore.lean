/-
  What tlv.Text, Put, Find and the reference's First, Text, Put, Parse, Find, Same compute, in plain terms; there and back.
-/
import Derived.Test.YtndcpbiofhclhaaTlvFirst
import Derived.Test.YtndcpbiofhclhaaTlvRef
import Derived.Test.YtndcpbiofhclhaaGood
import Derived.Test.YtndcpbiofhclhaaHx22
import Derived.Test.YtndcpbiofhclhaaHx37
import Derived.Test.YtndcpbiofhclhaaHx30
import Derived.Test.YtndcpbiofhclhaaHx38
import Derived.Test.YtndcpbiofhclhaaHx34
import Derived.Test.YtndcpbiofhclhaaHx31
import Derived.Test.YtndcpbiofhclhaaHx39
import Derived.Test.YtndcpbiofhclhaaHx35
import Derived.Test.YtndcpbiofhclhaaHx33
import Derived.Test.YtndcpbiofhclhaaHx36
namespace Go.Proofs.Ytndcpbiofhclhaa.Tlv
open Go.RowKit Go.Proofs.YtndcpbiofhclhaaW.PrintWords Go.Proofs.Ytndcpbiofhclhaa.H Go.Proofs.Ytndcpbiofhclhaa.Bytes

theorem live (k : Nat) (hk : 20 ≤ k) : wharflaw11_live.f k = some true :=
  at_rounds (g := fun k => wharflaw11_live.f k) (fun k => wharflaw11_live.mono k) hk (by decide +kernel)

/-- a text with its length ahead -/
def text (s : ByteArray) (w : Int) : ByteArray × Int := if tlvFits s.size w = true then (nbytes s.size w ++ s, 0) else (⟨#[]⟩, 2)
theorem Text_eq (s : ByteArray) (w : Int) (hs : s.size ≤ 140737488351232) : tlv_Text.f s w = some (text s w) := by
  unfold tlv_Text.f text
  rw [Int_eq, Option.bind_some]
  by_cases h : tlvFits s.size w = true
  · rw [if_pos h, if_pos h]
    have hw := fits_w h
    have hz := bytes_size s.size w hw
    dsimp only
    rw [if_pos rfl, if_pos (by omega)]
  · rw [if_neg h, if_neg h]
    rfl
theorem refText_eq (s : ByteArray) (w : Int) (hs : s.size ≤ 140737488351232) (k : Nat) (hk : 8 ≤ k) : wharfref11_Text.f k s w = some (text s w) := by
  unfold wharfref11_Text.f text
  rw [refInt_eq _ _ k hk, Option.bind_some]
  by_cases h : tlvFits s.size w = true
  · rw [if_pos h, if_pos h]
    have hw := fits_w h
    have hz := bytes_size s.size w hw
    dsimp only
    rw [if_pos rfl, if_pos (by omega)]
  · rw [if_neg h, if_neg h]
    rfl
/-- values' bytes -/
def fits1 (x : S75) : Prop := tlvFits x.f0 2 = true ∧ tlvFits x.f1.size 2 = true
instance (x : S75) : Decidable (fits1 x) := by unfold fits1; infer_instance
def one (x : S75) : ByteArray := nbytes x.f0 2 ++ (nbytes x.f1.size 2 ++ x.f1)
def putGo : List S75 → ByteArray → ByteArray × Int
  | [], acc => (acc, 0)
  | x :: l, acc => if fits1 x then putGo l (acc ++ one x) else (⟨#[]⟩, 2)
def put (l : List S75) : ByteArray × Int := if l.length > 64 then (⟨#[]⟩, 6) else putGo l ⟨#[]⟩
theorem one_size {x : S75} (h : fits1 x) : (one x).size ≤ 65539 := by
  have h2 := (fits_iff _ _).mp h.2
  have z1 := bytes_size x.f0 2 (by omega)
  have z2 := bytes_size x.f1.size 2 (by omega)
  unfold one
  rw [ByteArray.size_append, ByteArray.size_append]
  omega
theorem bytesOf_append (a b : ByteArray) : bytesOf (a ++ b) = bytesOf a ++ bytesOf b := by simp [bytesOf]
theorem strOfNums_bytesOf (s : ByteArray) : strOfNums (bytesOf s) = s := by
  apply L_inj
  rw [L_nums, bytesOf, List.map_map]
  have : ((fun n : Int => UInt8.ofNat n.toNat) ∘ fun b : UInt8 => (b.toNat : Int)) = id := by
    funext u
    simp
  rw [this, List.map_id]
theorem rd_get (l : List S75) (i : Nat) (h : i < l.length) : rd_T75 l (i : Int) = l[i] := by
  unfold rd_T75
  rw [Int.toNat_natCast, List.getD_eq_getElem?_getD, List.getElem?_eq_getElem h]
  rfl
theorem put_loop (l : List S75) (hl : l.length ≤ 64) (hg : ∀ z ∈ l, z.f1.size ≤ 140737488351232) : ∀ (d i k : Nat) (acc : ByteArray), i + d = l.length → acc.size ≤ i * 65539 → d < k →
    tlv_Put.l0 k (bytesOf acc) l (l.length : Int) (i : Int) = some (putGo (l.drop i) acc) := by
  intro d
  induction d with
  | zero =>
    intro i k acc hi _ hk
    obtain ⟨k, rfl⟩ : ∃ m, k = m + 1 := ⟨k - 1, by omega⟩
    simp only [tlv_Put.l0]
    rw [if_neg (by omega), List.drop_of_length_le (by omega), strOfNums_bytesOf]
    rfl
  | succ d ih =>
    intro i k acc hi ha hk
    obtain ⟨k, rfl⟩ : ∃ m, k = m + 1 := ⟨k - 1, by omega⟩
    have hlt : i < l.length := by omega
    have hgi := hg l[i] (List.getElem_mem hlt)
    simp only [tlv_Put.l0]
    rw [if_pos (by omega), if_pos (by omega), if_pos (by omega), rd_get l i hlt, Int_eq, Option.bind_some, Text_eq _ _ hgi, Option.bind_some, List.drop_eq_getElem_cons hlt]
    simp only [putGo]
    unfold text
    by_cases h0 : tlvFits (l[i]).f0 2 = true
    · by_cases h1 : tlvFits (l[i]).f1.size 2 = true
      · have h2 := (fits_iff _ _).mp h1
        have z1 := bytes_size (l[i]).f0 2 (by omega)
        have z2 := bytes_size (l[i]).f1.size 2 (by omega)
        rw [if_pos h0, if_pos h1, if_pos (show fits1 l[i] from ⟨h0, h1⟩)]
        dsimp only
        have hi64 : i * 65539 ≤ 64 * 65539 := Nat.mul_le_mul_right _ (by omega)
        have zz : (nbytes (l[i]).f1.size 2 ++ (l[i]).f1).size = (nbytes (l[i]).f1.size 2).size + (l[i]).f1.size := ByteArray.size_append
        rw [if_pos rfl, if_pos rfl, if_pos (by rw [bytesOf_length]; omega), Option.bind_some, if_pos (by rw [List.length_append, bytesOf_length, bytesOf_length, zz]; omega)]
        rw [wrap_id ((i : Int) + 1) (by omega) (by omega), ← bytesOf_append, ← bytesOf_append, show ((i : Int) + 1) = ((i + 1 : Nat) : Int) by omega]
        rw [ih (i + 1) k _ (by omega) (by rw [ByteArray.size_append, ByteArray.size_append, zz]; omega) (by omega)]
        unfold one
        rw [ByteArray.append_assoc]
      · rw [if_pos h0, if_neg h1, if_neg (show ¬ fits1 l[i] from fun h => h1 h.2)]
        rfl
    · rw [if_neg h0, if_neg (show ¬ fits1 l[i] from fun h => h0 h.1)]
      rfl
theorem Put_eq (l : List S75) (hg : ∀ z ∈ l, z.f1.size ≤ 140737488351232) (k : Nat) (hk : 66 ≤ k) : tlv_Put.f k l = some (put l) := by
  unfold tlv_Put.f put
  by_cases h : l.length > 64
  · rw [if_pos h, if_pos (by omega)]
  · rw [if_neg h, if_neg (by omega)]
    have := put_loop l (by omega) hg l.length 0 k ⟨#[]⟩ (by omega) (by decide) (by omega)
    exact this
theorem refPut_loop (l : List S75) (hl : l.length ≤ 64) (hg : ∀ z ∈ l, z.f1.size ≤ 140737488351232) : ∀ (d i k : Nat) (acc : ByteArray), i + d = l.length → acc.size ≤ i * 65539 → d + 8 < k →
    wharfref11_Put.l0 k l acc (i : Int) = some (putGo (l.drop i) acc) := by
  intro d
  induction d with
  | zero =>
    intro i k acc hi _ hk
    obtain ⟨k, rfl⟩ : ∃ m, k = m + 1 := ⟨k - 1, by omega⟩
    simp only [wharfref11_Put.l0]
    rw [if_neg (by omega), List.drop_of_length_le (by omega)]
    rfl
  | succ d ih =>
    intro i k acc hi ha hk
    obtain ⟨k, rfl⟩ : ∃ m, k = m + 1 := ⟨k - 1, by omega⟩
    have hlt : i < l.length := by omega
    have hgi := hg l[i] (List.getElem_mem hlt)
    simp only [wharfref11_Put.l0]
    rw [if_pos (by omega), if_pos (by omega), rd_get l i hlt, refInt_eq _ _ k (by omega), Option.bind_some, refText_eq _ _ hgi k (by omega), Option.bind_some, List.drop_eq_getElem_cons hlt]
    simp only [putGo]
    unfold text
    by_cases h0 : tlvFits (l[i]).f0 2 = true
    · by_cases h1 : tlvFits (l[i]).f1.size 2 = true
      · have h2 := (fits_iff _ _).mp h1
        have z1 := bytes_size (l[i]).f0 2 (by omega)
        have z2 := bytes_size (l[i]).f1.size 2 (by omega)
        rw [if_pos h0, if_pos h1, if_pos (show fits1 l[i] from ⟨h0, h1⟩)]
        dsimp only
        have hi64 : i * 65539 ≤ 64 * 65539 := Nat.mul_le_mul_right _ (by omega)
        have zz : (nbytes (l[i]).f1.size 2 ++ (l[i]).f1).size = (nbytes (l[i]).f1.size 2).size + (l[i]).f1.size := ByteArray.size_append
        rw [if_pos (by decide +kernel), if_pos (by omega), if_pos (by rw [ByteArray.size_append, zz]; omega)]
        rw [wrap_id ((i : Int) + 1) (by omega) (by omega), show ((i : Int) + 1) = ((i + 1 : Nat) : Int) by omega]
        rw [ih (i + 1) k _ (by omega) (by rw [ByteArray.size_append, ByteArray.size_append, zz]; omega) (by omega)]
        unfold one
        rw [ByteArray.append_assoc]
      · rw [if_pos h0, if_neg h1, if_neg (show ¬ fits1 l[i] from fun h => h1 h.2)]
        dsimp only
        exact if_neg (by decide +kernel)
    · rw [if_neg h0, if_neg (show ¬ fits1 l[i] from fun h => h0 h.1)]
      by_cases h1 : tlvFits (l[i]).f1.size 2 = true
      · rw [if_pos h1]
        dsimp only
        exact if_neg (by decide +kernel)
      · rw [if_neg h1]
        dsimp only
        exact if_neg (by decide +kernel)
theorem refPut_eq (l : List S75) (hg : ∀ z ∈ l, z.f1.size ≤ 140737488351232) (k : Nat) (hk : 80 ≤ k) : wharfref11_Put.f k l = some (put l) := by
  unfold wharfref11_Put.f put
  by_cases h : l.length > 64
  · rw [if_pos h, if_pos (by omega)]
  · rw [if_neg h, if_neg (by omega)]
    have := refPut_loop l (by omega) hg l.length 0 k ⟨#[]⟩ (by omega) (by decide) (by omega)
    exact this
/-- the first value of a type -/
def find (t : Int) : List S75 → ByteArray × Bool
  | [] => (⟨#[]⟩, false)
  | x :: l => if x.f0 = t then (x.f1, true) else find t l
theorem find_loop (l : List S75) (t : Int) (hl : l.length ≤ 9223372036854775806) : ∀ (d i k : Nat), i + d = l.length → d < k → tlv_Find.l0 k t l (l.length : Int) (i : Int) = some (find t (l.drop i)) := by
  intro d
  induction d with
  | zero =>
    intro i k hi hk
    obtain ⟨k, rfl⟩ : ∃ m, k = m + 1 := ⟨k - 1, by omega⟩
    simp only [tlv_Find.l0]
    rw [if_neg (by omega), List.drop_of_length_le (by omega)]
    rfl
  | succ d ih =>
    intro i k hi hk
    obtain ⟨k, rfl⟩ : ∃ m, k = m + 1 := ⟨k - 1, by omega⟩
    have hlt : i < l.length := by omega
    simp only [tlv_Find.l0]
    rw [if_pos (by omega), if_pos (by omega), if_pos (by omega), rd_get l i hlt, List.drop_eq_getElem_cons hlt]
    simp only [find]
    by_cases h : (l[i]).f0 = t
    · rw [if_pos h, if_pos h]
    · rw [if_neg h, if_neg h, wrap_id _ (by omega) (by omega), show ((i : Int) + 1) = ((i + 1 : Nat) : Int) by omega, ih (i + 1) k (by omega) (by omega)]
theorem Find_eq (l : List S75) (t : Int) (hl : l.length ≤ 9223372036854775806) (k : Nat) (hk : l.length < k) : tlv_Find.f k l t = some (find t l) := by
  have := find_loop l t hl l.length 0 k (by omega) (by omega)
  simpa [tlv_Find.f] using this
theorem refFind_loop (l : List S75) (t : Int) (hl : l.length ≤ 9223372036854775806) : ∀ (d i k : Nat), i + d = l.length → d < k → wharfref11_Find.l0 k l t (i : Int) = some (find t (l.drop i)) := by
  intro d
  induction d with
  | zero =>
    intro i k hi hk
    obtain ⟨k, rfl⟩ : ∃ m, k = m + 1 := ⟨k - 1, by omega⟩
    simp only [wharfref11_Find.l0]
    rw [if_neg (by omega), List.drop_of_length_le (by omega)]
    rfl
  | succ d ih =>
    intro i k hi hk
    obtain ⟨k, rfl⟩ : ∃ m, k = m + 1 := ⟨k - 1, by omega⟩
    have hlt : i < l.length := by omega
    simp only [wharfref11_Find.l0]
    rw [if_pos (by omega), if_pos (by omega), rd_get l i hlt, List.drop_eq_getElem_cons hlt]
    simp only [find]
    by_cases h : (l[i]).f0 = t
    · rw [if_pos h, if_pos h]
    · rw [if_neg h, if_neg h, wrap_id _ (by omega) (by omega), show ((i : Int) + 1) = ((i + 1 : Nat) : Int) by omega, ih (i + 1) k (by omega) (by omega)]
theorem refFind_eq (l : List S75) (t : Int) (hl : l.length ≤ 9223372036854775806) (k : Nat) (hk : l.length < k) : wharfref11_Find.f k l t = some (find t l) := by
  have := refFind_loop l t hl l.length 0 k (by omega) (by omega)
  simpa [wharfref11_Find.f] using this
instance : DecidableEq S75 := fun a b => decidable_of_iff (a.f0 = b.f0 ∧ a.f1 = b.f1) ⟨fun h => by cases a; cases b; simp_all, fun h => by rw [h]; exact ⟨rfl, rfl⟩⟩
theorem same_loop (l m : List S75) (hlm : l.length = m.length) (hl : l.length ≤ 9223372036854775806) : ∀ (d i k : Nat), i + d = l.length → d < k → wharfref11_Same.l0 k l m (i : Int) = some (decide (l.drop i = m.drop i)) := by
  intro d
  induction d with
  | zero =>
    intro i k hi hk
    obtain ⟨k, rfl⟩ : ∃ m, k = m + 1 := ⟨k - 1, by omega⟩
    simp only [wharfref11_Same.l0]
    rw [if_neg (by omega), List.drop_of_length_le (by omega), List.drop_of_length_le (by omega)]
    rfl
  | succ d ih =>
    intro i k hi hk
    obtain ⟨k, rfl⟩ : ∃ m, k = m + 1 := ⟨k - 1, by omega⟩
    have hlt : i < l.length := by omega
    have hlt' : i < m.length := by omega
    simp only [wharfref11_Same.l0]
    rw [if_pos (by omega), if_pos (by omega), if_pos (by omega), rd_get l i hlt, rd_get m i hlt', List.drop_eq_getElem_cons hlt, List.drop_eq_getElem_cons hlt']
    by_cases h : l[i] = m[i]
    · rw [if_neg (by rw [h]; simp), wrap_id _ (by omega) (by omega), show ((i : Int) + 1) = ((i + 1 : Nat) : Int) by omega, ih (i + 1) k (by omega) (by omega), h]
      congr 1
      rw [Bool.eq_iff_iff, decide_eq_true_iff, decide_eq_true_iff]
      exact ⟨fun e => by rw [e], fun e => (List.cons.inj e).2⟩
    · rw [if_pos ?_]
      · congr 1
        symm
        rw [decide_eq_false_iff_not]
        exact fun e => h (List.cons.inj e).1
      · rw [Bool.or_eq_true, Bool.not_eq_true', Bool.not_eq_true', beq_eq_false_iff_ne, beq_eq_false_iff_ne]
        by_cases h0 : (l[i]).f0 = (m[i]).f0
        · right
          intro h1
          apply h
          have := toList_inj.mp h1
          generalize l[i] = x at *
          generalize m[i] = y at *
          cases x
          cases y
          simp_all
        · exact Or.inl h0
theorem Same_eq (l m : List S75) (hl : l.length ≤ 9223372036854775806) (k : Nat) (hk : l.length < k) : wharfref11_Same.f k l m = some (decide (l = m)) := by
  unfold wharfref11_Same.f
  by_cases h : l.length = m.length
  · rw [if_pos (by omega)]
    have := same_loop l m h hl l.length 0 k (by omega) (by omega)
    simpa using this
  · rw [if_neg (by omega), decide_eq_false (fun e => h (by rw [e]))]
theorem refFirst_eq (s : ByteArray) (w : Int) (hs : s.size ≤ 140737488351232) (k : Nat) (hk : 9 ≤ k) : wharfref11_First.f k s w = some (first s w) := by
  unfold wharfref11_First.f first
  rw [width_eq, Option.bind_some]
  by_cases hw : w = 1 ∨ w = 2 ∨ w = 4
  · rw [if_pos (by rw [decide_eq_true_iff]; exact hw), if_pos hw]
    by_cases h0 : (s.size : Int) < w
    · rw [if_pos h0, if_pos h0]
    · rw [if_neg h0, if_neg h0]
      have hz : (s.extract 0 w.toNat).size = w.toNat := by rw [ByteArray.size_extract]; omega
      have e0 : numAns (s.extract 0 w.toNat) = (num (L (s.extract 0 w.toNat)) 0, 0) := by
        unfold numAns
        rw [if_pos (by omega)]
      have hn := num_lo (L (s.extract 0 w.toNat)) 0 (by omega)
      rw [if_pos (by omega), if_pos (by omega), refNum_eq _ k (by omega), Option.bind_some, e0]
      dsimp only
      generalize num (L (s.extract 0 w.toNat)) 0 = n at hn ⊢
      rw [wrap_id ((s.size : Int) - w) (by omega) (by omega)]
      by_cases h1 : n > (s.size : Int) - w
      · rw [if_pos h1, if_pos h1]
      · rw [if_neg h1, if_neg h1]
        have w2 : wrap64 (w + n) = w + n := wrap_id _ (by omega) (by omega)
        simp only [w2]
        rw [if_pos (by omega), if_pos (by omega), if_pos (by omega)]
        rw [show (w + n).toNat = w.toNat + n.toNat by omega]
  · rw [if_neg (by rw [decide_eq_true_iff]; exact hw), if_neg hw]
end Go.Proofs.Ytndcpbiofhclhaa.Tlv
