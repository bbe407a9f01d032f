/-
  What the functions of package rate, and of its reference, compute, in plain terms.
-/
import Derived.Test.YtbeclnffcapfpaaHx10
import Derived.Test.YtbeclnffcapfpaaHx11
import Derived.Test.YtbeclnffcapfpaaHx18
import Derived.Test.YtbeclnffcapfpaaHx16
import Derived.Test.YtbeclnffcapfpaaHx20
import Derived.Test.YtbeclnffcapfpaaHx21
import Derived.Test.YtbeclnffcapfpaaHx19
import Derived.Test.YtbeclnffcapfpaaHx13
import Derived.Test.YtbeclnffcapfpaaHx12
import Derived.Test.YtbeclnffcapfpaaHx9
namespace Go.Proofs.Ytbeclnffcapfpaa.Rate
open Go.RowKit Go.Proofs.YtbeclnffcapfpaaW.PrintWords Go.Proofs.Ytbeclnffcapfpaa.H

theorem live (k : Nat) (hk : 64 ≤ k) : wharflaw19_live.f k = some true :=
  at_rounds (g := fun k => wharflaw19_live.f k) (fun k => wharflaw19_live.mono k) hk (by decide +kernel)
theorem wid (a : Int) (h0 : -9223372036854775808 ≤ a) (h1 : a < 9223372036854775808) : wrap64 a = a := by unfold wrap64; omega

/-- whether a rate may be -/
def Rok (W C A L D M v t : Int) : Prop := 1 ≤ W ∧ W ≤ 1000 ∧ 0 ≤ D ∧ D ≤ L ∧ L ≤ A ∧ A ≤ C ∧ C ≤ M ∧ M ≤ 4294967295 ∧ 0 ≤ v ∧ v ≤ M ∧ 0 ≤ t ∧ t ≤ 4503599627370496
instance (W C A L D M v t : Int) : Decidable (Rok W C A L D M v t) := by unfold Rok; infer_instance
theorem Is_eq (W C A L D M v t : Int) : wharfref19_Is.f W C A L D M v t = some (decide (Rok W C A L D M v t)) := by
  unfold wharfref19_Is.f
  by_cases h1 : W < 1
  · rw [if_pos h1, decide_eq_false (fun h_ => by unfold Rok at h_; omega)]
  rw [if_neg h1]
  by_cases h2 : W > 1000
  · rw [if_pos h2, decide_eq_false (fun h_ => by unfold Rok at h_; omega)]
  rw [if_neg h2]
  by_cases h3 : D < 0
  · rw [if_pos h3, decide_eq_false (fun h_ => by unfold Rok at h_; omega)]
  rw [if_neg h3]
  by_cases h4 : L < D
  · rw [if_pos h4, decide_eq_false (fun h_ => by unfold Rok at h_; omega)]
  rw [if_neg h4]
  by_cases h5 : A < L
  · rw [if_pos h5, decide_eq_false (fun h_ => by unfold Rok at h_; omega)]
  rw [if_neg h5]
  by_cases h6 : C < A
  · rw [if_pos h6, decide_eq_false (fun h_ => by unfold Rok at h_; omega)]
  rw [if_neg h6]
  by_cases h7 : M < C
  · rw [if_pos h7, decide_eq_false (fun h_ => by unfold Rok at h_; omega)]
  rw [if_neg h7]
  by_cases h8 : M > 4294967295
  · rw [if_pos h8, decide_eq_false (fun h_ => by unfold Rok at h_; omega)]
  rw [if_neg h8]
  by_cases h9 : v ≥ 0
  · rw [if_pos h9]
    by_cases h10 : v ≤ M
    · rw [if_pos h10]
      by_cases h11 : t ≥ 0
      · rw [if_pos h11]
        congr 1
        rw [Bool.eq_iff_iff, decide_eq_true_iff, decide_eq_true_iff]
        unfold Rok
        omega
      · rw [if_neg h11, decide_eq_false (fun h_ => by unfold Rok at h_; omega)]
    · rw [if_neg h10, decide_eq_false (fun h_ => by unfold Rok at h_; omega)]
  · rw [if_neg h9, decide_eq_false (fun h_ => by unfold Rok at h_; omega)]
theorem less_eq (a b : Int) : cmp_Less_int64.f a b = some (decide (a < b)) := by
  unfold cmp_Less_int64.f cmp_isNaN_int64.f
  simp
theorem sorted_loop (x : List Int) (hx : x.length ≤ 9223372036854775807) : ∀ (d k : Nat), d < x.length → d < k → ∃ b, slices_IsSorted_int64_int64.l0 k x (d : Int) = some b ∧ (b = true ↔ ∀ j : Nat, 1 ≤ j → j ≤ d → rd x ((j : Int) - 1) ≤ rd x (j : Int)) := by
  intro d
  induction d with
  | zero =>
    intro k hd hk
    obtain ⟨k, rfl⟩ : ∃ m, k = m + 1 := ⟨k - 1, by omega⟩
    simp only [slices_IsSorted_int64_int64.l0]
    rw [if_neg (by omega)]
    exact ⟨true, rfl, ⟨fun _ j h1 h2 => by omega, fun _ => rfl⟩⟩
  | succ d ih =>
    intro k hd hk
    obtain ⟨k, rfl⟩ : ∃ m, k = m + 1 := ⟨k - 1, by omega⟩
    simp only [slices_IsSorted_int64_int64.l0]
    have e : wrap64 (((d + 1 : Nat) : Int) - 1) = (d : Int) := by rw [wid _ (by omega) (by omega)]; omega
    rw [if_pos (by omega), if_pos (by omega), if_pos (by omega), e, if_pos (by omega), if_pos (by omega), less_eq, Option.bind_some]
    by_cases h : rd x ((d + 1 : Nat) : Int) < rd x (d : Int)
    · rw [decide_eq_true h, if_pos rfl]
      refine ⟨false, rfl, ⟨fun e => (Bool.false_ne_true e).elim, fun h' => ?_⟩⟩
      have := h' (d + 1) (by omega) (Nat.le_refl _)
      rw [show (((d + 1 : Nat) : Int) - 1) = (d : Int) by omega] at this
      omega
    · rw [decide_eq_false h, if_neg Bool.false_ne_true]
      obtain ⟨b, hb, hi⟩ := ih k (by omega) (by omega)
      refine ⟨b, hb, hi.trans ⟨?_, fun h1 j hj hj' => h1 j hj (by omega)⟩⟩
      intro h1 j hj hj'
      by_cases hjd : j ≤ d
      · exact h1 j hj hjd
      · obtain rfl : j = d + 1 := by omega
        rw [show (((d + 1 : Nat) : Int) - 1) = (d : Int) by omega]
        omega
theorem sorted_eq (x : List Int) (n : Nat) (hx : x.length = n + 1) (hn : n ≤ 100) (k : Nat) (hk : n < k) : ∃ b, rate_within.f k x = some b ∧ (b = true ↔ ∀ j : Nat, 1 ≤ j → j ≤ n → rd x ((j : Int) - 1) ≤ rd x (j : Int)) := by
  unfold rate_within.f slices_IsSorted_int64_int64.f
  have e : wrap64 ((x.length : Int) - 1) = (n : Int) := by rw [wid _ (by omega) (by omega)]; omega
  obtain ⟨b, hb, hi⟩ := sorted_loop x (by omega) n k (by omega) hk
  rw [e, hb]
  exact ⟨b, rfl, hi⟩
theorem three (a b c : Int) (k : Nat) (hk : 10 ≤ k) : rate_within.f k [a, b, c] = some (decide (a ≤ b ∧ b ≤ c)) := by
  obtain ⟨q, hq, hi⟩ := sorted_eq [a, b, c] 2 rfl (by omega) k (by omega)
  rw [hq]
  congr 1
  rw [Bool.eq_iff_iff, decide_eq_true_iff, hi]
  constructor
  · intro h
    exact ⟨h 1 (by omega) (by omega), h 2 (by omega) (by omega)⟩
  · rintro ⟨h1, h2⟩ j hj hj'
    have : j = 1 ∨ j = 2 := by omega
    rcases this with rfl | rfl
    · exact h1
    · exact h2
theorem seven (a b c d e f g : Int) (k : Nat) (hk : 10 ≤ k) : rate_within.f k [a, b, c, d, e, f, g] = some (decide (a ≤ b ∧ b ≤ c ∧ c ≤ d ∧ d ≤ e ∧ e ≤ f ∧ f ≤ g)) := by
  obtain ⟨q, hq, hi⟩ := sorted_eq [a, b, c, d, e, f, g] 6 rfl (by omega) k (by omega)
  rw [hq]
  congr 1
  rw [Bool.eq_iff_iff, decide_eq_true_iff, hi]
  constructor
  · intro h
    exact ⟨h 1 (by omega) (by omega), h 2 (by omega) (by omega), h 3 (by omega) (by omega), h 4 (by omega) (by omega), h 5 (by omega) (by omega), h 6 (by omega) (by omega)⟩
  · rintro ⟨h1, h2, h3, h4, h5, h6⟩ j hj hj'
    have : j = 1 ∨ j = 2 ∨ j = 3 ∨ j = 4 ∨ j = 5 ∨ j = 6 := by omega
    rcases this with rfl | rfl | rfl | rfl | rfl | rfl
    · exact h1
    · exact h2
    · exact h3
    · exact h4
    · exact h5
    · exact h6
theorem Check_eq (W C A L D M v t : Int) (k : Nat) (hk : 10 ≤ k) : rate_Check.f k W C A L D M v t = some (if Rok W C A L D M v t then 0 else 190) := by
  unfold rate_Check.f
  rw [seven _ _ _ _ _ _ _ k hk, three _ _ _ k hk, three _ _ _ k hk, three _ _ _ k hk]
  simp only [Option.bind_some, decide_eq_true_iff]
  by_cases h : Rok W C A L D M v t
  · have h' := h
    unfold Rok at h'
    rw [if_pos h, if_pos (by omega), if_pos (by omega), if_pos (by omega), if_pos (by omega)]
  · have h' := h
    unfold Rok at h'
    rw [if_neg h]
    split
    · split
      · split
        · rw [if_neg (by omega)]
        · rfl
      · rfl
    · rfl
/-- the level behind something that is sent at a time -/
def dist (t now : Int) : Int := if now - t < 0 then 0 else if 4294967295 < now - t then 4294967295 else now - t
def peek (W M v t now : Int) : Int := if M < ((W - 1) * v + dist t now) / W then M else ((W - 1) * v + dist t now) / W
theorem mul_bound {W v : Int} (h0 : 1 ≤ W) (h1 : W ≤ 1000) (h2 : 0 ≤ v) (h3 : v ≤ 4294967295) : 0 ≤ (W - 1) * v ∧ (W - 1) * v ≤ 4290672328800 := by
  constructor
  · exact Int.mul_nonneg (by omega) h2
  · have : (W - 1) * v ≤ 999 * 4294967295 := Int.mul_le_mul (by omega) h3 h2 (by omega)
    omega
theorem dist_bound (t now : Int) : 0 ≤ dist t now ∧ dist t now ≤ 4294967295 := by
  unfold dist
  split
  · omega
  · split <;> omega
theorem div_bound {a W : Int} (h0 : 0 ≤ a) (h1 : a ≤ 9000000000000) (hW : 1 ≤ W) : 0 ≤ a / W ∧ a / W ≤ 9000000000000 := by
  refine ⟨Int.ediv_nonneg h0 (by omega), ?_⟩
  have := Int.ediv_le_self W h0
  omega
section
variable {W C A L D M v t : Int}
theorem behind_eq (h : Rok W C A L D M v t) (now : Int) (h0 : 0 ≤ now) (h1 : now ≤ 9007199254740992) : rate_Peek.f W C A L D M v t now = some (peek W M v t now) := by
  unfold Rok at h
  have hm := mul_bound (W := W) (v := v) (by omega) (by omega) (by omega) (by omega)
  have hd := dist_bound t now
  unfold rate_Peek.f rate_meter_behind.f peek
  rw [if_neg (by omega), wid (now - t) (by omega) (by omega), wid (W - 1) (by omega) (by omega), Int.mul_comm v (W - 1), wid ((W - 1) * v) (by omega) (by omega)]
  have e : mn (mx (now - t) 0) 4294967295 = dist t now := by
    unfold mn mx dist
    by_cases c0 : now - t < 0
    · rw [if_pos c0, if_pos c0]; rfl
    · rw [if_neg c0, if_neg c0]
  rw [e, wid ((W - 1) * v + dist t now) (by omega) (by omega), Int.tdiv_eq_ediv_of_nonneg (by omega)]
  have hb := div_bound (a := (W - 1) * v + dist t now) (W := W) (by omega) (by omega) (by omega)
  rw [wid _ (by omega) (by omega), Option.bind_some]
  congr 1
  unfold mn
  split <;> split <;> omega
theorem refPeek_eq (h : Rok W C A L D M v t) (now : Int) (h0 : 0 ≤ now) (h1 : now ≤ 9007199254740992) : wharfref19_Peek.f W C A L D M v t now = some (peek W M v t now) := by
  unfold Rok at h
  have hm := mul_bound (W := W) (v := v) (by omega) (by omega) (by omega) (by omega)
  have hd := dist_bound t now
  unfold wharfref19_Peek.f peek
  rw [if_neg (by omega)]
  have e : refPeekD t now = dist t now := by
    unfold refPeekD dist
    rw [wid (now - t) (by omega) (by omega)]
  have hb := div_bound (a := (W - 1) * v + dist t now) (W := W) (by omega) (by omega) (by omega)
  have e2 : refPeekN W v (dist t now) = ((W - 1) * v + dist t now) / W := by
    unfold refPeekN
    rw [wid (W - 1) (by omega) (by omega), wid ((W - 1) * v) (by omega) (by omega), wid ((W - 1) * v + dist t now) (by omega) (by omega), Int.tdiv_eq_ediv_of_nonneg (by omega), wid _ (by omega) (by omega)]
  rw [e, e2]
theorem peek_bound (h : Rok W C A L D M v t) (now : Int) : 0 ≤ peek W M v t now ∧ peek W M v t now ≤ M := by
  unfold Rok at h
  have hm := mul_bound (W := W) (v := v) (by omega) (by omega) (by omega) (by omega)
  have hd := dist_bound t now
  have hb := div_bound (a := (W - 1) * v + dist t now) (W := W) (by omega) (by omega) (by omega)
  unfold peek
  split <;> omega
theorem dist_mono (t : Int) {a b : Int} (h : a ≤ b) : dist t a ≤ dist t b := by
  unfold dist
  split <;> split <;> (try split) <;> (try split) <;> omega
theorem peek_mono (h : Rok W C A L D M v t) {a b : Int} (hab : a ≤ b) : peek W M v t a ≤ peek W M v t b := by
  unfold Rok at h
  have h1 := dist_mono t hab
  have h2 : ((W - 1) * v + dist t a) / W ≤ ((W - 1) * v + dist t b) / W := Int.ediv_le_ediv (by omega) (by omega)
  unfold peek
  split <;> split <;> omega
/-- what is lacking -/
def need (W L v : Int) : Int := W * L - (W - 1) * v
theorem may_iff (h : Rok W C A L D M v t) (now : Int) : L ≤ peek W M v t now ↔ need W L v ≤ dist t now := by
  unfold Rok at h
  have e : L ≤ ((W - 1) * v + dist t now) / W ↔ L * W ≤ (W - 1) * v + dist t now := Int.le_ediv_iff_mul_le (by omega)
  unfold peek need
  rw [Int.mul_comm W L]
  by_cases c : M < ((W - 1) * v + dist t now) / W
  · rw [if_pos c]
    constructor
    · intro _
      have := e.mp (by omega)
      omega
    · intro _; omega
  · rw [if_neg c, e]
    omega
theorem May_eq (h : Rok W C A L D M v t) (now : Int) (h0 : 0 ≤ now) (h1 : now ≤ 9007199254740992) : rate_May.f W C A L D M v t now = some (decide (need W L v ≤ dist t now)) := by
  unfold rate_May.f
  rw [behind_eq h now h0 h1, Option.bind_some]
  congr 1
  rw [Bool.eq_iff_iff, decide_eq_true_iff, decide_eq_true_iff]
  exact may_iff h now
theorem refMay_eq (h : Rok W C A L D M v t) (now : Int) (h0 : 0 ≤ now) (h1 : now ≤ 9007199254740992) : wharfref19_May.f W C A L D M v t now = some (decide (need W L v ≤ dist t now)) := by
  unfold wharfref19_May.f
  rw [refPeek_eq h now h0 h1, Option.bind_some]
  congr 1
  rw [Bool.eq_iff_iff, decide_eq_true_iff, decide_eq_true_iff]
  exact may_iff h now
theorem Send_eq (h : Rok W C A L D M v t) (now : Int) (h0 : 0 ≤ now) (h1 : now ≤ 9007199254740992) : rate_Send.f W C A L D M v t now = some (W, C, A, L, D, M, peek W M v t now, mx t now) := by
  unfold rate_Send.f
  rw [behind_eq h now h0 h1, Option.bind_some]
theorem refSend_eq (h : Rok W C A L D M v t) (now : Int) (h0 : 0 ≤ now) (h1 : now ≤ 9007199254740992) : wharfref19_Send.f W C A L D M v t now = some (W, C, A, L, D, M, peek W M v t now, mx t now) := by
  unfold wharfref19_Send.f
  rw [refPeek_eq h now h0 h1, Option.bind_some]
theorem send_ok (h : Rok W C A L D M v t) (now : Int) (h0 : 0 ≤ now) (h1 : now ≤ 4503599627370496) : Rok W C A L D M (peek W M v t now) (mx t now) := by
  have hp := peek_bound h now
  unfold Rok at h ⊢
  unfold mx
  split <;> omega
/-- how long it is until something may be sent -/
def wait (W L v t now : Int) : Int :=
  if need W L v > dist t 4503599627370496 then 4503599627370496
  else if need W L v ≤ 0 then 0 else if now < t + need W L v then t + need W L v - now else 0
theorem need_bound (h : Rok W C A L D M v t) : -4290672328800 ≤ need W L v ∧ need W L v ≤ 4294967295000 := by
  unfold Rok at h
  have hm := mul_bound (W := W) (v := v) (by omega) (by omega) (by omega) (by omega)
  have h1 : 0 ≤ W * L := Int.mul_nonneg (by omega) (by omega)
  have h2 : W * L ≤ 1000 * 4294967295 := Int.mul_le_mul (by omega) (by omega) (by omega) (by omega)
  unfold need
  omega
theorem Wait_eq (h : Rok W C A L D M v t) (now : Int) (h0 : 0 ≤ now) (h1 : now ≤ 4503599627370496) (k : Nat) (hk : 1 ≤ k) : rate_Wait.f k W C A L D M v t now = some (wait W L v t now) := by
  obtain ⟨k, rfl⟩ : ∃ m, k = m + 1 := ⟨k - 1, by omega⟩
  have hn := need_bound h
  have hr := h
  unfold Rok at hr
  have hm := mul_bound (W := W) (v := v) (by omega) (by omega) (by omega) (by omega)
  have h2 : 0 ≤ W * L := Int.mul_nonneg (by omega) (by omega)
  have h3 : W * L ≤ 1000 * 4294967295 := Int.mul_le_mul (by omega) (by omega) (by omega) (by omega)
  unfold rate_Wait.f
  rw [if_neg (by omega), wid (W * L) (by omega) (by omega), wid (W - 1) (by omega) (by omega), wid ((W - 1) * v) (by omega) (by omega), wid (W * L - (W - 1) * v) (by unfold need at hn; omega) (by unfold need at hn; omega)]
  show rate_Wait.j0 (k + 1) now (need W L v) (decide (need W L v > 4294967295)) W C A L D M v t = _
  simp only [rate_Wait.j0]
  unfold wait
  have hd1 : dist t 4503599627370496 ≤ 4294967295 ∧ dist t 4503599627370496 ≤ 4503599627370496 - t ∧ (dist t 4503599627370496 = 4294967295 ∨ dist t 4503599627370496 = 4503599627370496 - t) := by
    unfold dist
    rw [if_neg (by omega)]
    split <;> omega
  generalize dist t 4503599627370496 = dm at hd1 ⊢
  generalize need W L v = q at hn ⊢
  rw [wid (now - t) (by omega) (by omega), wid (q - (now - t)) (by omega) (by omega), wid (4503599627370496 - now) (by omega) (by omega)]
  unfold mx
  by_cases c0 : q > 4294967295
  · rw [decide_eq_true c0, if_pos rfl, if_pos (by omega)]
  · rw [decide_eq_false c0, if_neg Bool.false_ne_true]
    by_cases c1 : q ≤ 0
    · rw [if_pos c1, if_neg (by omega), if_pos c1]
    · rw [if_neg c1]
      by_cases c2 : 0 < q - (now - t)
      · rw [if_pos c2]
        by_cases c3 : q - (now - t) > 4503599627370496 - now
        · rw [if_pos c3, if_pos (by omega)]
        · rw [if_neg c3, if_neg (by omega), if_neg c1, if_pos (by omega)]
          congr 1; omega
      · rw [if_neg c2, if_neg (by omega), if_neg (by omega), if_neg c1, if_neg (by omega)]
/-- halved again and again -/
theorem halve (h : Rok W C A L D M v t) (now m : Int) (h0 : 0 ≤ now) (hm : ∀ x, 0 ≤ x → now + x ≤ 9007199254740992 → (need W L v ≤ dist t (now + x) ↔ m ≤ x)) : ∀ (d k : Nat) (a b : Int), 0 ≤ a → a ≤ m → m ≤ b → now + b ≤ 4503599627370496 → (b - a).toNat ≤ d → d < k →
    wharfref19_Wait.l0 k now a b W C A L D M v t = some m := by
  intro d
  induction d with
  | zero =>
    intro k a b ha0 ha hb hnb hd hk
    obtain ⟨k, rfl⟩ : ∃ q, k = q + 1 := ⟨k - 1, by omega⟩
    simp only [wharfref19_Wait.l0]
    rw [if_neg (by omega)]
    congr 1; omega
  | succ d ih =>
    intro k a b ha0 ha hb hnb hd hk
    obtain ⟨k, rfl⟩ : ∃ q, k = q + 1 := ⟨k - 1, by omega⟩
    simp only [wharfref19_Wait.l0]
    by_cases c : a < b
    · rw [if_pos c, wid (b - a) (by omega) (by omega), Int.tdiv_eq_ediv_of_nonneg (by omega), wid ((b - a) / 2) (by omega) (by omega), wid (a + (b - a) / 2) (by omega) (by omega), wid (now + (a + (b - a) / 2)) (by omega) (by omega), refMay_eq h _ (by omega) (by omega), Option.bind_some]
      have hx := hm (a + (b - a) / 2) (by omega) (by omega)
      by_cases c1 : need W L v ≤ dist t (now + (a + (b - a) / 2))
      · rw [decide_eq_true c1, if_pos rfl]
        exact ih k a _ ha0 ha (hx.mp c1) (by omega) (by omega) (by omega)
      · rw [decide_eq_false c1, if_neg Bool.false_ne_true, wid (a + (b - a) / 2 + 1) (by omega) (by omega)]
        exact ih k _ b (by omega) (by have := mt hx.mpr c1; omega) hb hnb (by omega) (by omega)
    · rw [if_neg c]
      congr 1; omega
theorem wait_iff (h : Rok W C A L D M v t) (now : Int) (hw : ¬ need W L v > dist t 4503599627370496) (x : Int) (hx : 0 ≤ x) : need W L v ≤ dist t (now + x) ↔ wait W L v t now ≤ x := by
  have hn := need_bound h
  unfold Rok at h
  unfold wait
  rw [if_neg hw]
  unfold dist at hw ⊢
  generalize need W L v = q at hn hw ⊢
  by_cases c1 : q ≤ 0
  · rw [if_pos c1]
    constructor
    · intro _; exact hx
    · intro _; split
      · omega
      · split <;> omega
  · rw [if_neg c1]
    have hq : q ≤ 4294967295 := by
      rw [if_neg (by omega)] at hw
      split at hw <;> omega
    by_cases c2 : now + x - t < 0
    · rw [if_pos c2]
      split <;> omega
    · rw [if_neg c2]
      by_cases c3 : 4294967295 < now + x - t
      · rw [if_pos c3]
        split <;> omega
      · rw [if_neg c3]
        split <;> omega
theorem refWait_eq (h : Rok W C A L D M v t) (now : Int) (h0 : 0 ≤ now) (h1 : now ≤ 4503599627370496) (k : Nat) (hk : 4503599627370600 ≤ k) : wharfref19_Wait.f k W C A L D M v t now = some (wait W L v t now) := by
  obtain ⟨k, rfl⟩ : ∃ m, k = m + 1 := ⟨k - 1, by omega⟩
  unfold wharfref19_Wait.f
  rw [if_neg (by omega), refMay_eq h 4503599627370496 (by omega) (by omega), Option.bind_some]
  simp only [wharfref19_Wait.j0]
  by_cases c : need W L v ≤ dist t 4503599627370496
  · rw [decide_eq_true c, Bool.not_true, if_neg Bool.false_ne_true, wid (4503599627370496 - now) (by omega) (by omega)]
    have hw := fun x hx => wait_iff h now (by omega) x hx
    refine halve h now (wait W L v t now) h0 (fun x hx _ => hw x hx) 4503599627370500 k 0 (4503599627370496 - now) (by omega) ?_ ?_ (by omega) (by omega) (by omega)
    · have hn := need_bound h
      unfold Rok at h
      unfold wait
      rw [if_neg (by omega)]
      split
      · omega
      · split <;> omega
    · have := (hw (4503599627370496 - now) (by omega)).mp (by rw [show now + (4503599627370496 - now) = 4503599627370496 by omega]; exact c)
      exact this
  · rw [decide_eq_false c, Bool.not_false, if_pos rfl]
    unfold wait
    rw [if_pos (by omega)]
end
end Go.Proofs.Ytbeclnffcapfpaa.Rate
