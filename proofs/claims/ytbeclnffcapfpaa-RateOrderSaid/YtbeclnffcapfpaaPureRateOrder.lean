import Derived.Test.YtbeclnffcapfpaaHx10
import Derived.Test.YtbeclnffcapfpaaHx18
import Derived.Test.YtbeclnffcapfpaaHx16
import Derived.Test.YtbeclnffcapfpaaHx20
import Derived.Test.YtbeclnffcapfpaaHx13
import Derived.Test.YtbeclnffcapfpaaHx12
import Derived.Test.YtbeclnffcapfpaaHx9
import Derived.Test.YtbeclnffcapfpaaHx23
import Derived.Test.YtbeclnffcapfpaaHx25
import Derived.Test.YtbeclnffcapfpaaHx22
import Derived.Test.YtbeclnffcapfpaaHx7
import Derived.Test.YtbeclnffcapfpaaGood
namespace Go.Proofs.Ytbeclnffcapfpaa.Rate
open Go.RowKit Go.Proofs.YtbeclnffcapfpaaW.PrintWords Go.Proofs.Ytbeclnffcapfpaa.H

theorem live (k : Nat) (hk : 64 ≤ k) : wharflaw19_live.f k = some true :=
  at_rounds (g := fun k => wharflaw19_live.f k) (fun k => wharflaw19_live.mono k) hk (by decide +kernel)
theorem wid (a : Int) (h0 : -9223372036854775808 ≤ a) (h1 : a < 9223372036854775808) : wrap64 a = a := by unfold wrap64; omega

/-- whether a rate may be -/
def Rok (W C A L D M v t : Int) : Prop := 1 ≤ W ∧ W ≤ 1000 ∧ 0 ≤ D ∧ D ≤ L ∧ L ≤ A ∧ A ≤ C ∧ C ≤ M ∧ M ≤ 4294967295 ∧ 0 ≤ v ∧ v ≤ M ∧ 0 ≤ t ∧ t ≤ 4503599627370496
instance (W C A L D M v t : Int) : Decidable (Rok W C A L D M v t) := by unfold Rok; infer_instance
theorem less_eq (a b : Int) : cmp_Less_int64.f a b = some (decide (a < b)) := by
  unfold cmp_Less_int64.f cmp_isNaN_int64.f
  simp
theorem sorted_loop (x : List Int) (hx : x.length ≤ 9223372036854775807) : ∀ (d k : Nat), d < x.length → d < k → ∃ b, slices_IsSorted_int64_int64.l0 k x (d : Int) = some b ∧ (b = true ↔ ∀ j : Nat, 1 ≤ j → j ≤ d → rd x ((j : Int) - 1) ≤ rd x (j : Int)) := by
  intro d
  induction d with
  | zero =>
    intro k hd hk
    obtain ⟨k, rfl⟩ : ∃ m, k = m + 1 := ⟨k - 1, by omega⟩
    simp only [slices_IsSorted_int64_int64.l0]
    rw [if_neg (by omega)]
    exact ⟨true, rfl, ⟨fun _ j h1 h2 => by omega, fun _ => rfl⟩⟩
  | succ d ih =>
    intro k hd hk
    obtain ⟨k, rfl⟩ : ∃ m, k = m + 1 := ⟨k - 1, by omega⟩
    simp only [slices_IsSorted_int64_int64.l0]
    have e : wrap64 (((d + 1 : Nat) : Int) - 1) = (d : Int) := by rw [wid _ (by omega) (by omega)]; omega
    rw [if_pos (by omega), if_pos (by omega), if_pos (by omega), e, if_pos (by omega), if_pos (by omega), less_eq, Option.bind_some]
    by_cases h : rd x ((d + 1 : Nat) : Int) < rd x (d : Int)
    · rw [decide_eq_true h, if_pos rfl]
      refine ⟨false, rfl, ⟨fun e => (Bool.false_ne_true e).elim, fun h' => ?_⟩⟩
      have := h' (d + 1) (by omega) (Nat.le_refl _)
      rw [show (((d + 1 : Nat) : Int) - 1) = (d : Int) by omega] at this
      omega
    · rw [decide_eq_false h, if_neg Bool.false_ne_true]
      obtain ⟨b, hb, hi⟩ := ih k (by omega) (by omega)
      refine ⟨b, hb, hi.trans ⟨?_, fun h1 j hj hj' => h1 j hj (by omega)⟩⟩
      intro h1 j hj hj'
      by_cases hjd : j ≤ d
      · exact h1 j hj hjd
      · obtain rfl : j = d + 1 := by omega
        rw [show (((d + 1 : Nat) : Int) - 1) = (d : Int) by omega]
        omega
theorem sorted_eq (x : List Int) (n : Nat) (hx : x.length = n + 1) (hn : n ≤ 100) (k : Nat) (hk : n < k) : ∃ b, rate_within.f k x = some b ∧ (b = true ↔ ∀ j : Nat, 1 ≤ j → j ≤ n → rd x ((j : Int) - 1) ≤ rd x (j : Int)) := by
  unfold rate_within.f slices_IsSorted_int64_int64.f
  have e : wrap64 ((x.length : Int) - 1) = (n : Int) := by rw [wid _ (by omega) (by omega)]; omega
  obtain ⟨b, hb, hi⟩ := sorted_loop x (by omega) n k (by omega) hk
  rw [e, hb]
  exact ⟨b, rfl, hi⟩
theorem three (a b c : Int) (k : Nat) (hk : 10 ≤ k) : rate_within.f k [a, b, c] = some (decide (a ≤ b ∧ b ≤ c)) := by
  obtain ⟨q, hq, hi⟩ := sorted_eq [a, b, c] 2 rfl (by omega) k (by omega)
  rw [hq]
  congr 1
  rw [Bool.eq_iff_iff, decide_eq_true_iff, hi]
  constructor
  · intro h
    exact ⟨h 1 (by omega) (by omega), h 2 (by omega) (by omega)⟩
  · rintro ⟨h1, h2⟩ j hj hj'
    have : j = 1 ∨ j = 2 := by omega
    rcases this with rfl | rfl
    · exact h1
    · exact h2
theorem seven (a b c d e f g : Int) (k : Nat) (hk : 10 ≤ k) : rate_within.f k [a, b, c, d, e, f, g] = some (decide (a ≤ b ∧ b ≤ c ∧ c ≤ d ∧ d ≤ e ∧ e ≤ f ∧ f ≤ g)) := by
  obtain ⟨q, hq, hi⟩ := sorted_eq [a, b, c, d, e, f, g] 6 rfl (by omega) k (by omega)
  rw [hq]
  congr 1
  rw [Bool.eq_iff_iff, decide_eq_true_iff, hi]
  constructor
  · intro h
    exact ⟨h 1 (by omega) (by omega), h 2 (by omega) (by omega), h 3 (by omega) (by omega), h 4 (by omega) (by omega), h 5 (by omega) (by omega), h 6 (by omega) (by omega)⟩
  · rintro ⟨h1, h2, h3, h4, h5, h6⟩ j hj hj'
    have : j = 1 ∨ j = 2 ∨ j = 3 ∨ j = 4 ∨ j = 5 ∨ j = 6 := by omega
    rcases this with rfl | rfl | rfl | rfl | rfl | rfl
    · exact h1
    · exact h2
    · exact h3
    · exact h4
    · exact h5
    · exact h6
theorem Check_eq (W C A L D M v t : Int) (k : Nat) (hk : 10 ≤ k) : rate_Check.f k W C A L D M v t = some (if Rok W C A L D M v t then 0 else 190) := by
  unfold rate_Check.f
  rw [seven _ _ _ _ _ _ _ k hk, three _ _ _ k hk, three _ _ _ k hk, three _ _ _ k hk]
  simp only [Option.bind_some, decide_eq_true_iff]
  by_cases h : Rok W C A L D M v t
  · have h' := h
    unfold Rok at h'
    rw [if_pos h, if_pos (by omega), if_pos (by omega), if_pos (by omega), if_pos (by omega)]
  · have h' := h
    unfold Rok at h'
    rw [if_neg h]
    split
    · split
      · split
        · rw [if_neg (by omega)]
        · rfl
      · rfl
    · rfl
/-- the level behind something that is sent at a time -/
def dist (t now : Int) : Int := if now - t < 0 then 0 else if 4294967295 < now - t then 4294967295 else now - t
def peek (W M v t now : Int) : Int := if M < ((W - 1) * v + dist t now) / W then M else ((W - 1) * v + dist t now) / W
theorem mul_bound {W v : Int} (h0 : 1 ≤ W) (h1 : W ≤ 1000) (h2 : 0 ≤ v) (h3 : v ≤ 4294967295) : 0 ≤ (W - 1) * v ∧ (W - 1) * v ≤ 4290672328800 := by
  constructor
  · exact Int.mul_nonneg (by omega) h2
  · have : (W - 1) * v ≤ 999 * 4294967295 := Int.mul_le_mul (by omega) h3 h2 (by omega)
    omega
theorem dist_bound (t now : Int) : 0 ≤ dist t now ∧ dist t now ≤ 4294967295 := by
  unfold dist
  split
  · omega
  · split <;> omega
theorem div_bound {a W : Int} (h0 : 0 ≤ a) (h1 : a ≤ 9000000000000) (hW : 1 ≤ W) : 0 ≤ a / W ∧ a / W ≤ 9000000000000 := by
  refine ⟨Int.ediv_nonneg h0 (by omega), ?_⟩
  have := Int.ediv_le_self W h0
  omega
section
variable {W C A L D M v t : Int}
theorem behind_eq (h : Rok W C A L D M v t) (now : Int) (h0 : 0 ≤ now) (h1 : now ≤ 9007199254740992) : rate_Peek.f W C A L D M v t now = some (peek W M v t now) := by
  unfold Rok at h
  have hm := mul_bound (W := W) (v := v) (by omega) (by omega) (by omega) (by omega)
  have hd := dist_bound t now
  unfold rate_Peek.f rate_meter_behind.f peek
  rw [if_neg (by omega), wid (now - t) (by omega) (by omega), wid (W - 1) (by omega) (by omega), Int.mul_comm v (W - 1), wid ((W - 1) * v) (by omega) (by omega)]
  have e : mn (mx (now - t) 0) 4294967295 = dist t now := by
    unfold mn mx dist
    by_cases c0 : now - t < 0
    · rw [if_pos c0, if_pos c0]; rfl
    · rw [if_neg c0, if_neg c0]
  rw [e, wid ((W - 1) * v + dist t now) (by omega) (by omega), Int.tdiv_eq_ediv_of_nonneg (by omega)]
  have hb := div_bound (a := (W - 1) * v + dist t now) (W := W) (by omega) (by omega) (by omega)
  rw [wid _ (by omega) (by omega), Option.bind_some]
  congr 1
  unfold mn
  split <;> split <;> omega
theorem peek_bound (h : Rok W C A L D M v t) (now : Int) : 0 ≤ peek W M v t now ∧ peek W M v t now ≤ M := by
  unfold Rok at h
  have hm := mul_bound (W := W) (v := v) (by omega) (by omega) (by omega) (by omega)
  have hd := dist_bound t now
  have hb := div_bound (a := (W - 1) * v + dist t now) (W := W) (by omega) (by omega) (by omega)
  unfold peek
  split <;> omega
theorem dist_mono (t : Int) {a b : Int} (h : a ≤ b) : dist t a ≤ dist t b := by
  unfold dist
  split <;> split <;> (try split) <;> (try split) <;> omega
theorem peek_mono (h : Rok W C A L D M v t) {a b : Int} (hab : a ≤ b) : peek W M v t a ≤ peek W M v t b := by
  unfold Rok at h
  have h1 := dist_mono t hab
  have h2 : ((W - 1) * v + dist t a) / W ≤ ((W - 1) * v + dist t b) / W := Int.ediv_le_ediv (by omega) (by omega)
  unfold peek
  split <;> split <;> omega
/-- what is lacking -/
def need (W L v : Int) : Int := W * L - (W - 1) * v
theorem may_iff (h : Rok W C A L D M v t) (now : Int) : L ≤ peek W M v t now ↔ need W L v ≤ dist t now := by
  unfold Rok at h
  have e : L ≤ ((W - 1) * v + dist t now) / W ↔ L * W ≤ (W - 1) * v + dist t now := Int.le_ediv_iff_mul_le (by omega)
  unfold peek need
  rw [Int.mul_comm W L]
  by_cases c : M < ((W - 1) * v + dist t now) / W
  · rw [if_pos c]
    constructor
    · intro _
      have := e.mp (by omega)
      omega
    · intro _; omega
  · rw [if_neg c, e]
    omega
theorem May_eq (h : Rok W C A L D M v t) (now : Int) (h0 : 0 ≤ now) (h1 : now ≤ 9007199254740992) : rate_May.f W C A L D M v t now = some (decide (need W L v ≤ dist t now)) := by
  unfold rate_May.f
  rw [behind_eq h now h0 h1, Option.bind_some]
  congr 1
  rw [Bool.eq_iff_iff, decide_eq_true_iff, decide_eq_true_iff]
  exact may_iff h now
theorem Send_eq (h : Rok W C A L D M v t) (now : Int) (h0 : 0 ≤ now) (h1 : now ≤ 9007199254740992) : rate_Send.f W C A L D M v t now = some (W, C, A, L, D, M, peek W M v t now, mx t now) := by
  unfold rate_Send.f
  rw [behind_eq h now h0 h1, Option.bind_some]
theorem send_ok (h : Rok W C A L D M v t) (now : Int) (h0 : 0 ≤ now) (h1 : now ≤ 4503599627370496) : Rok W C A L D M (peek W M v t now) (mx t now) := by
  have hp := peek_bound h now
  unfold Rok at h ⊢
  unfold mx
  split <;> omega
/-- how long it is until something may be sent -/
def wait (W L v t now : Int) : Int :=
  if need W L v > dist t 4503599627370496 then 4503599627370496
  else if need W L v ≤ 0 then 0 else if now < t + need W L v then t + need W L v - now else 0
theorem need_bound (h : Rok W C A L D M v t) : -4290672328800 ≤ need W L v ∧ need W L v ≤ 4294967295000 := by
  unfold Rok at h
  have hm := mul_bound (W := W) (v := v) (by omega) (by omega) (by omega) (by omega)
  have h1 : 0 ≤ W * L := Int.mul_nonneg (by omega) (by omega)
  have h2 : W * L ≤ 1000 * 4294967295 := Int.mul_le_mul (by omega) (by omega) (by omega) (by omega)
  unfold need
  omega
theorem Wait_eq (h : Rok W C A L D M v t) (now : Int) (h0 : 0 ≤ now) (h1 : now ≤ 4503599627370496) (k : Nat) (hk : 1 ≤ k) : rate_Wait.f k W C A L D M v t now = some (wait W L v t now) := by
  obtain ⟨k, rfl⟩ : ∃ m, k = m + 1 := ⟨k - 1, by omega⟩
  have hn := need_bound h
  have hr := h
  unfold Rok at hr
  have hm := mul_bound (W := W) (v := v) (by omega) (by omega) (by omega) (by omega)
  have h2 : 0 ≤ W * L := Int.mul_nonneg (by omega) (by omega)
  have h3 : W * L ≤ 1000 * 4294967295 := Int.mul_le_mul (by omega) (by omega) (by omega) (by omega)
  unfold rate_Wait.f
  rw [if_neg (by omega), wid (W * L) (by omega) (by omega), wid (W - 1) (by omega) (by omega), wid ((W - 1) * v) (by omega) (by omega), wid (W * L - (W - 1) * v) (by unfold need at hn; omega) (by unfold need at hn; omega)]
  show rate_Wait.j0 (k + 1) now (need W L v) (decide (need W L v > 4294967295)) W C A L D M v t = _
  simp only [rate_Wait.j0]
  unfold wait
  have hd1 : dist t 4503599627370496 ≤ 4294967295 ∧ dist t 4503599627370496 ≤ 4503599627370496 - t ∧ (dist t 4503599627370496 = 4294967295 ∨ dist t 4503599627370496 = 4503599627370496 - t) := by
    unfold dist
    rw [if_neg (by omega)]
    split <;> omega
  generalize dist t 4503599627370496 = dm at hd1 ⊢
  generalize need W L v = q at hn ⊢
  rw [wid (now - t) (by omega) (by omega), wid (q - (now - t)) (by omega) (by omega), wid (4503599627370496 - now) (by omega) (by omega)]
  unfold mx
  by_cases c0 : q > 4294967295
  · rw [decide_eq_true c0, if_pos rfl, if_pos (by omega)]
  · rw [decide_eq_false c0, if_neg Bool.false_ne_true]
    by_cases c1 : q ≤ 0
    · rw [if_pos c1, if_neg (by omega), if_pos c1]
    · rw [if_neg c1]
      by_cases c2 : 0 < q - (now - t)
      · rw [if_pos c2]
        by_cases c3 : q - (now - t) > 4503599627370496 - now
        · rw [if_pos c3, if_pos (by omega)]
        · rw [if_neg c3, if_neg (by omega), if_neg c1, if_pos (by omega)]
          congr 1; omega
      · rw [if_neg c2, if_neg (by omega), if_neg (by omega), if_neg c1, if_neg (by omega)]
end
end Go.Proofs.Ytbeclnffcapfpaa.Rate

namespace Go.Proofs.Ytbeclnffcapfpaa.Rate
open Go.RowKit Go.Proofs.YtbeclnffcapfpaaW.PrintWords Go.Proofs.Ytbeclnffcapfpaa.H

abbrev Note := S41
theorem time_eq (n : Int) : wharflaw19_time.f n = some (decide (0 ≤ n ∧ n ≤ 4503599627370496)) := by
  unfold wharflaw19_time.f
  by_cases h : n ≥ 0
  · rw [if_pos h]
    congr 1
    rw [Bool.eq_iff_iff, decide_eq_true_iff, decide_eq_true_iff]
    omega
  · rw [if_neg h, decide_eq_false (by omega)]
def push (l : List Note) (n : Note) : List Note × Int :=
  if (n.f0 = 11 ∨ n.f0 = 12) ∧ rateIdx l n.f0 < l.length then (l.set (rateIdx l n.f0) n, 0) else if l.length ≥ 16 then (l, 5) else (l ++ [n], 0)
theorem clone_eq (l : List Note) (h : l.length < 977343669134) : api_Note_35.f l = some l := by
  unfold api_Note_35.f
  rw [if_pos h]
theorem Push_eq (W C A L D M v t : Int) (l : List Note) (n : Note) (hl : l.length ≤ 100) (k : Nat) (hk : 1 ≤ k) :
    rate_Push.f k W C A L D M v t l n.f0 n.f1 n.f2 n.f3 n.f4 n.f5 n.f6 n.f7 n.f8 n.f9 n.f10 = some (W, C, A, L, D, M, v, t, (push l n).1, (push l n).2) := by
  obtain ⟨k, rfl⟩ : ∃ m, k = m + 1 := ⟨k - 1, by omega⟩
  have hadd : (if (l.length : Int) ≥ 16 then some (W, C, A, L, D, M, v, t, l, (5 : Int)) else (some l).bind fun t139 => ((some (([n] : List Note))).bind fun y142 => (if t139.length + y142.length < 977343669134 then (some (W, C, A, L, D, M, v, t, (t139 ++ y142), (0 : Int))) else none)))
      = some (W, C, A, L, D, M, v, t, (if l.length ≥ 16 then (l, (5 : Int)) else (l ++ [n], 0)).1, (if l.length ≥ 16 then (l, (5 : Int)) else (l ++ [n], 0)).2) := by
    by_cases c : l.length ≥ 16
    · rw [if_pos (by omega), if_pos c]
    · rw [if_neg (by omega), if_neg c, Option.bind_some, Option.bind_some, if_pos (by simp; omega)]
  have hno : ¬ (n.f0 = 11 ∨ n.f0 = 12) → rate_Push.j0 (k + 1) false W C A L D M v t l n.f0 n.f1 n.f2 n.f3 n.f4 n.f5 n.f6 n.f7 n.f8 n.f9 n.f10 = some (W, C, A, L, D, M, v, t, (push l n).1, (push l n).2) := by
    intro c
    simp only [rate_Push.j0]
    have p : push l n = if l.length ≥ 16 then (l, 5) else (l ++ [n], 0) := by unfold push; rw [if_neg (fun h => c h.1)]
    rw [p, if_neg Bool.false_ne_true, clone_eq l (by omega)]
    exact hadd
  have hyes : (n.f0 = 11 ∨ n.f0 = 12) → rate_Push.j0 (k + 1) true W C A L D M v t l n.f0 n.f1 n.f2 n.f3 n.f4 n.f5 n.f6 n.f7 n.f8 n.f9 n.f10 = some (W, C, A, L, D, M, v, t, (push l n).1, (push l n).2) := by
    intro c
    simp only [rate_Push.j0]
    rw [if_pos trivial]
    unfold rate_PushIdx.f
    by_cases h : rateIdx l n.f0 < l.length
    · have e : rateIx l n.f0 = (rateIdx l n.f0 : Int) := by unfold rateIx; rw [if_pos h]
      have p : push l n = (l.set (rateIdx l n.f0) n, 0) := by unfold push; rw [if_pos ⟨c, h⟩]
      rw [p, e, Option.bind_some, if_pos (by omega), clone_eq l (by omega), Option.bind_some, if_pos (by omega), if_pos (by omega), Int.toNat_natCast]
    · have e : rateIx l n.f0 = -1 := by unfold rateIx; rw [if_neg h]
      have p : push l n = if l.length ≥ 16 then (l, 5) else (l ++ [n], 0) := by unfold push; rw [if_neg (fun h' => h h'.2)]
      rw [p, e, Option.bind_some, if_neg (by omega), clone_eq l (by omega)]
      exact hadd
  unfold rate_Push.f
  by_cases c : n.f0 = 11
  · rw [if_pos c, show (n.f0 == 11) = true from beq_iff_eq.mpr c]
    exact hyes (Or.inl c)
  · rw [if_neg c]
    by_cases c' : n.f0 = 12
    · rw [show (n.f0 == 12) = true from beq_iff_eq.mpr c']
      exact hyes (Or.inr c')
    · rw [show (n.f0 == 12) = false from beq_eq_false_iff_ne.mpr c']
      exact hno (by omega)
theorem push_len (l : List Note) (n : Note) (h : l.length ≤ 16) : (push l n).1.length ≤ 16 := by
  unfold push
  split
  · rw [List.length_set]; exact h
  · split
    · exact h
    · rw [List.length_append, List.length_singleton]; omega
/-- what may be sent leaves -/
def pop (W L M now : Int) : Int → Int → List Note → Int × Int × List Note × List Note
  | v, t, [] => (v, t, [], [])
  | v, t, x :: l => if need W L v ≤ dist t now then ((pop W L M now (peek W M v t now) (mx t now) l).1, (pop W L M now (peek W M v t now) (mx t now) l).2.1, x :: (pop W L M now (peek W M v t now) (mx t now) l).2.2.1, (pop W L M now (peek W M v t now) (mx t now) l).2.2.2) else (v, t, [], x :: l)
theorem pop_loop (W C A L D M now : Int) (h0 : 0 ≤ now) (h1 : now ≤ 4503599627370496) (l : List Note) (hl : l.length ≤ 100) : ∀ (d i k : Nat) (v t : Int), i + d = l.length → d < k → Rok W C A L D M v t →
    rate_Pop.l0 k now (i : Int) W C A L D M v t l = some (W, C, A, L, D, M, (pop W L M now v t (l.drop i)).1, (pop W L M now v t (l.drop i)).2.1, (pop W L M now v t (l.drop i)).2.2.2, l.take i ++ (pop W L M now v t (l.drop i)).2.2.1) := by
  intro d
  induction d with
  | zero =>
    intro i k v t hi hk hr
    obtain ⟨k, rfl⟩ : ∃ m, k = m + 1 := ⟨k - 1, by omega⟩
    simp only [rate_Pop.l0]
    rw [if_neg (by omega), if_pos (by omega), if_pos (by omega), Int.toNat_natCast, clone_eq _ (by rw [List.length_take]; omega), clone_eq _ (by rw [List.length_drop]; omega), Option.bind_some, Option.bind_some, List.drop_of_length_le (by omega)]
    simp only [pop, List.append_nil]
  | succ d ih =>
    intro i k v t hi hk hr
    obtain ⟨k, rfl⟩ : ∃ m, k = m + 1 := ⟨k - 1, by omega⟩
    have hlt : i < l.length := by omega
    simp only [rate_Pop.l0]
    rw [if_pos (by omega), May_eq hr now h0 (by omega), Option.bind_some]
    by_cases c : need W L v ≤ dist t now
    · rw [decide_eq_true c, if_pos rfl, Send_eq hr now h0 (by omega), Option.bind_some]
      dsimp only
      rw [wid ((i : Int) + 1) (by omega) (by omega), show ((i : Int) + 1) = ((i + 1 : Nat) : Int) by omega, ih (i + 1) k _ _ (by omega) (by omega) (send_ok hr now h0 h1), List.drop_eq_getElem_cons hlt]
      simp only [pop]
      rw [if_pos c, List.take_succ_eq_append_getElem hlt, List.append_assoc]
      rfl
    · rw [decide_eq_false c, if_neg Bool.false_ne_true, if_pos (by omega), if_pos (by omega), Int.toNat_natCast, clone_eq _ (by rw [List.length_take]; omega), clone_eq _ (by rw [List.length_drop]; omega), Option.bind_some, Option.bind_some, List.drop_eq_getElem_cons hlt]
      simp only [pop]
      rw [if_neg c, List.append_nil]
theorem Pop_eq {W C A L D M v t : Int} (hr : Rok W C A L D M v t) (now : Int) (h0 : 0 ≤ now) (h1 : now ≤ 4503599627370496) (l : List Note) (hl : l.length ≤ 100) (k : Nat) (hk : l.length < k) :
    rate_Pop.f k W C A L D M v t l now = some (W, C, A, L, D, M, (pop W L M now v t l).1, (pop W L M now v t l).2.1, (pop W L M now v t l).2.2.2, (pop W L M now v t l).2.2.1) := by
  have := pop_loop W C A L D M now h0 h1 l hl l.length 0 k v t (by omega) hk hr
  exact this
theorem pop_parts (W L M now : Int) : ∀ (l : List Note) (v t : Int), (pop W L M now v t l).2.2.1 ++ (pop W L M now v t l).2.2.2 = l := by
  intro l
  induction l with
  | nil => intro v t; rfl
  | cons x l ih =>
    intro v t
    simp only [pop]
    split
    · simp only [List.cons_append, ih]
    · rfl
theorem pop_ok (W C A L D M now : Int) (h0 : 0 ≤ now) (h1 : now ≤ 4503599627370496) : ∀ (l : List Note) (v t : Int), Rok W C A L D M v t → Rok W C A L D M (pop W L M now v t l).1 (pop W L M now v t l).2.1 ∧ (L ≤ v → L ≤ (pop W L M now v t l).1) := by
  intro l
  induction l with
  | nil => intro v t h; exact ⟨h, fun h => h⟩
  | cons x l ih =>
    intro v t h
    simp only [pop]
    split
    · rename_i c
      have := ih _ _ (send_ok h now h0 h1)
      exact ⟨this.1, fun _ => this.2 ((may_iff h now).mpr c)⟩
    · exact ⟨h, fun h => h⟩
theorem weight_some (most : Int) (x0 : Int) (x1 x2 x3 : ByteArray) (x4 x5 x6 x7 : Int) (x8 : Bool) (x9 : List (S69)) (x10 : List Int) (hl : x9.length ≤ 100) : ∀ (d i k : Nat) (n : Int), i + d = x9.length → d < k → ∃ r, wharfref14_Weight.l0 k most n (i : Int) x0 x1 x2 x3 x4 x5 x6 x7 x8 x9 x10 = some r := by
  intro d
  induction d with
  | zero =>
    intro i k n hi hk
    obtain ⟨k, rfl⟩ : ∃ m, k = m + 1 := ⟨k - 1, by omega⟩
    simp only [wharfref14_Weight.l0]
    rw [if_neg (by omega)]
    exact ⟨_, rfl⟩
  | succ d ih =>
    intro i k n hi hk
    obtain ⟨k, rfl⟩ : ∃ m, k = m + 1 := ⟨k - 1, by omega⟩
    simp only [wharfref14_Weight.l0]
    rw [if_pos (by omega)]
    split
    · rw [if_pos (by omega), wid ((i : Int) + 1) (by omega) (by omega), show ((i : Int) + 1) = ((i + 1 : Nat) : Int) by omega]
      exact ih (i + 1) k _ (by omega) (by omega)
    · exact ⟨_, rfl⟩
theorem note_some (n : Note) (k : Nat) (hk : 102 ≤ k) : ∃ r, wharflaw19_note.f k n.f0 n.f1 n.f2 n.f3 n.f4 n.f5 n.f6 n.f7 n.f8 n.f9 n.f10 = some r := by
  unfold wharflaw19_note.f
  split
  · exact ⟨_, rfl⟩
  · split
    · exact ⟨_, rfl⟩
    · unfold wharfref14_Weight.f
      obtain ⟨r, hr⟩ := weight_some 10000 n.f0 n.f1 n.f2 n.f3 n.f4 n.f5 n.f6 n.f7 n.f8 n.f9 n.f10 (by omega) n.f9.length 0 k (wrap64 ((wrap64 ((wrap64 ((n.f1.size : Int) + (n.f2.size : Int))) + (n.f3.size : Int))) + (n.f10.length : Int))) (by omega) (by omega)
      refine ⟨r, ?_⟩
      have hr' := hr
      rw [show ((0 : Nat) : Int) = 0 from rfl] at hr'
      rw [hr']
      rfl
end Go.Proofs.Ytbeclnffcapfpaa.Rate

namespace Go.Proofs.Ytbeclnffcapfpaa.Pure
open Go.RowKit Go.Proofs.Ytbeclnffcapfpaa.H Go.Proofs.YtbeclnffcapfpaaW.PrintWords Go.Proofs.YtbeclnffcapfpaaW.PrintLast Go.Proofs.YtbeclnffcapfpaaW.PrintMore Go.Proofs.Ytbeclnffcapfpaa.Rate

theorem rd_mem (l : List Note) (i : Int) (h0 : 0 ≤ i) (h1 : i < l.length) : rd_T41 l i ∈ l := by
  unfold rd_T41
  rw [List.getD_eq_getElem?_getD, List.getElem?_eq_getElem (by omega)]
  exact List.getElem_mem _
theorem rd_nat (l : List Note) (i : Nat) (h1 : i < l.length) : rd_T41 l (i : Int) = l[i] := by
  unfold rd_T41
  rw [Int.toNat_natCast, List.getD_eq_getElem?_getD, List.getElem?_eq_getElem h1]
  rfl
/-- how much of fuel a note's likeness takes -/
def fuel (l : List Note) : Nat := (l.map fun z => z.f9.length + z.f10.length).sum
theorem fuel_mem {l : List Note} {z : Note} (h : z ∈ l) : z.f9.length + z.f10.length ≤ fuel l := by
  induction l with
  | nil => exact absurd h List.not_mem_nil
  | cons y l ih =>
    have e : fuel (y :: l) = (y.f9.length + y.f10.length) + fuel l := by unfold fuel; rw [List.map_cons, List.sum_cons]
    rcases List.mem_cons.mp h with rfl | h
    · omega
    · have := ih h; omega
theorem same1 (a0 : Int) (a1 a2 a3 : ByteArray) (a4 a5 a6 a7 : Int) (a8 : Bool) (a9 : List (S69)) (a10 : List Int) (hl : a10.length ≤ maxLen) : ∀ (d i k : Nat), i + d = a10.length → d < k →
    wharfref14_Same.l1 k (i : Int) a0 a1 a2 a3 a4 a5 a6 a7 a8 a9 a10 a0 a1 a2 a3 a4 a5 a6 a7 a8 a9 a10 = some true := by
  intro d
  induction d with
  | zero =>
    intro i k hi hk
    obtain ⟨k, rfl⟩ : ∃ m, k = m + 1 := ⟨k - 1, by omega⟩
    simp only [wharfref14_Same.l1]
    rw [if_neg (by omega)]
  | succ d ih =>
    intro i k hi hk
    obtain ⟨k, rfl⟩ : ∃ m, k = m + 1 := ⟨k - 1, by omega⟩
    unfold maxLen at hl
    simp only [wharfref14_Same.l1]
    rw [if_pos (by omega), if_pos (by omega), if_pos (by omega), if_pos trivial, wid ((i : Int) + 1) (by omega) (by omega), show ((i : Int) + 1) = ((i + 1 : Nat) : Int) by omega]
    exact ih (i + 1) k (by omega) (by omega)
theorem same0 (a0 : Int) (a1 a2 a3 : ByteArray) (a4 a5 a6 a7 : Int) (a8 : Bool) (a9 : List (S69)) (a10 : List Int) (h9 : a9.length ≤ maxLen) (hl : a10.length ≤ maxLen) : ∀ (d i k : Nat), i + d = a9.length → d + a10.length + 1 < k →
    wharfref14_Same.l0 k (i : Int) a0 a1 a2 a3 a4 a5 a6 a7 a8 a9 a10 a0 a1 a2 a3 a4 a5 a6 a7 a8 a9 a10 = some true := by
  intro d
  induction d with
  | zero =>
    intro i k hi hk
    obtain ⟨k, rfl⟩ : ∃ m, k = m + 1 := ⟨k - 1, by omega⟩
    simp only [wharfref14_Same.l0]
    rw [if_neg (by omega)]
    exact same1 a0 a1 a2 a3 a4 a5 a6 a7 a8 a9 a10 hl a10.length 0 k (by omega) (by omega)
  | succ d ih =>
    intro i k hi hk
    obtain ⟨k, rfl⟩ : ∃ m, k = m + 1 := ⟨k - 1, by omega⟩
    unfold maxLen at h9
    simp only [wharfref14_Same.l0]
    rw [if_pos (by omega), if_pos (by omega), if_pos (by omega), if_neg (by simp), wid ((i : Int) + 1) (by omega) (by omega), show ((i : Int) + 1) = ((i + 1 : Nat) : Int) by omega]
    exact ih (i + 1) k (by omega) (by omega)
theorem same_refl (n : Note) (k : Nat) (h9 : n.f9.length ≤ maxLen) (h10 : n.f10.length ≤ maxLen) (hk : n.f9.length + n.f10.length + 4 ≤ k) :
    wharfref14_Same.f k n.f0 n.f1 n.f2 n.f3 n.f4 n.f5 n.f6 n.f7 n.f8 n.f9 n.f10 n.f0 n.f1 n.f2 n.f3 n.f4 n.f5 n.f6 n.f7 n.f8 n.f9 n.f10 = some true := by
  obtain ⟨k, rfl⟩ : ∃ m, k = m + 1 := ⟨k - 1, by omega⟩
  unfold wharfref14_Same.f
  rw [if_pos rfl, if_pos rfl, if_pos rfl, if_pos rfl, if_pos rfl, if_pos rfl, if_pos rfl, if_pos rfl, if_neg (by simp), if_pos rfl]
  simp only [wharfref14_Same.j0]
  rw [if_neg (by simp)]
  exact same0 n.f0 n.f1 n.f2 n.f3 n.f4 n.f5 n.f6 n.f7 n.f8 n.f9 n.f10 h9 h10 n.f9.length 0 k (by omega) (by omega)
theorem list_loop (l : List Note) (F : Nat) (hl : l.length ≤ 1000) (hF : ∀ z ∈ l, z.f9.length ≤ maxLen ∧ z.f10.length ≤ maxLen ∧ z.f9.length + z.f10.length ≤ F) : ∀ (d i k : Nat), i + d = l.length → d + F + 4 < k → wharfref14_List.l0 k l l (i : Int) = some true := by
  intro d
  induction d with
  | zero =>
    intro i k hi hk
    obtain ⟨k, rfl⟩ : ∃ m, k = m + 1 := ⟨k - 1, by omega⟩
    simp only [wharfref14_List.l0]
    rw [if_neg (by omega)]
  | succ d ih =>
    intro i k hi hk
    obtain ⟨k, rfl⟩ : ∃ m, k = m + 1 := ⟨k - 1, by omega⟩
    have hz := hF _ (rd_mem l (i : Int) (by omega) (by omega))
    simp only [wharfref14_List.l0]
    rw [if_pos (by omega), if_pos (by omega), if_pos (by omega), same_refl _ k hz.1 hz.2.1 (by omega), Option.bind_some, if_pos rfl, wid ((i : Int) + 1) (by omega) (by omega), show ((i : Int) + 1) = ((i + 1 : Nat) : Int) by omega]
    exact ih (i + 1) k (by omega) (by omega)
theorem list_refl (l : List Note) (F : Nat) (hl : l.length ≤ 1000) (hF : ∀ z ∈ l, z.f9.length ≤ maxLen ∧ z.f10.length ≤ maxLen ∧ z.f9.length + z.f10.length ≤ F) (k : Nat) (hk : l.length + F + 4 < k) : wharfref14_List.f k l l = some true := by
  unfold wharfref14_List.f
  rw [if_pos rfl]
  exact list_loop l F hl hF l.length 0 k (by omega) hk
theorem line_loop (l : List Note) : ∀ (d i k : Nat) (n : Int), i + d = 61 → d + 110 ≤ k → ∃ r, wharflaw19_line.l0 k l n (i : Int) = some r := by
  intro d
  have stop : ∀ n : Int, ∃ r, (if (l.length : Int) ≤ 60 then (some (decide (n ≤ 10000))) else (some false)) = some r := by
    intro n
    split
    · exact ⟨_, rfl⟩
    · exact ⟨_, rfl⟩
  induction d with
  | zero =>
    intro i k n hi hk
    obtain ⟨k, rfl⟩ : ∃ m, k = m + 1 := ⟨k - 1, by omega⟩
    simp only [wharflaw19_line.l0]
    split
    · rw [if_neg (by omega)]; exact stop n
    · exact stop n
  | succ d ih =>
    intro i k n hi hk
    obtain ⟨k, rfl⟩ : ∃ m, k = m + 1 := ⟨k - 1, by omega⟩
    simp only [wharflaw19_line.l0]
    split
    · rw [if_pos (by omega)]
      split
      · obtain ⟨w, hw⟩ := note_some (rd_T41 l (i : Int)) k (by omega)
        rw [if_pos (by omega), hw, Option.bind_some, wid ((i : Int) + 1) (by omega) (by omega), show ((i : Int) + 1) = ((i + 1 : Nat) : Int) by omega]
        exact ih (i + 1) k _ (by omega) (by omega)
      · exact stop n
    · exact stop n
theorem wait_bound {W C A L D M v t now : Int} (hr : Rok W C A L D M v t) (h0 : 0 ≤ now) (h1 : now ≤ 4503599627370496) : 0 ≤ wait W L v t now ∧ wait W L v t now ≤ 4503599627370496 := by
  have hn := need_bound hr
  unfold Rok at hr
  unfold wait
  have hd : dist t 4503599627370496 ≤ 4503599627370496 - t := by
    unfold dist
    rw [if_neg (by omega)]
    split <;> omega
  split
  · omega
  · split
    · omega
    · split <;> omega
/-- notes leave, one behind the other -/
theorem order_loop (l : List Note) (F : Nat) (hl : l.length ≤ 16) (hF : ∀ z ∈ l, z.f9.length ≤ maxLen ∧ z.f10.length ≤ maxLen ∧ z.f9.length + z.f10.length ≤ F) (W C A L D M : Int) : ∀ (d j k : Nat) (now v t : Int) (got x : List Note), j + d = 17 → 2 * d + F + 200 ≤ k → 0 ≤ now → now ≤ 4503599627370496 → Rok W C A L D M v t → got ++ x = l →
    wharflaw19_RateOrder.l1 k l now got (j : Int) W C A L D M v t x = some true := by
  have fin : ∀ (k : Nat) (now v t : Int) (got x : List Note) (j : Int), F + 150 ≤ k → got ++ x = l → wharflaw19_RateOrder.j4 (k + 1) l now got j false W C A L D M v t x = some true := by
    intro k now v t got x j hk hx
    have hlen : got.length + x.length = l.length := by rw [← hx, List.length_append]
    simp only [wharflaw19_RateOrder.j4]
    rw [if_neg Bool.false_ne_true, if_pos (by omega), hx, list_refl l F (by omega) hF k (by omega), Option.bind_some, if_pos rfl, live k (by omega)]
    rfl
  intro d
  induction d with
  | zero =>
    intro j k now v t got x hj hk h0 h1 hr hx
    obtain ⟨k, rfl⟩ : ∃ m, k = m + 2 := ⟨k - 2, by omega⟩
    simp only [wharflaw19_RateOrder.l1]
    rw [if_neg (by omega)]
    exact fin k now v t got x _ (by omega) hx
  | succ d ih =>
    intro j k now v t got x hj hk h0 h1 hr hx
    obtain ⟨k, rfl⟩ : ∃ m, k = m + 2 := ⟨k - 2, by omega⟩
    simp only [wharflaw19_RateOrder.l1]
    rw [if_pos (by omega)]
    by_cases c : ((x.length : Int) > 0)
    · rw [decide_eq_true c]
      have hlen : got.length + x.length = l.length := by rw [← hx, List.length_append]
      have hp := pop_parts W L M now x v t
      have hpl : (pop W L M now v t x).2.2.1.length + (pop W L M now v t x).2.2.2.length = x.length := by rw [← List.length_append, hp]
      have hok := (pop_ok W C A L D M now h0 h1 x v t hr).1
      have hw := wait_bound hok h0 h1
      simp only [wharflaw19_RateOrder.j4]
      rw [if_pos trivial, Pop_eq hr now h0 h1 x (by omega) k (by omega), Option.bind_some]
      dsimp only
      rw [if_pos (by omega), Option.bind_some, wid _ (by omega) (by omega), if_pos (by omega), Wait_eq hok now h0 h1 k (by omega), Option.bind_some, wid (4503599627370496 - now) (by omega) (by omega)]
      have hx' : got ++ (pop W L M now v t x).2.2.1 ++ (pop W L M now v t x).2.2.2 = l := by rw [List.append_assoc, hp, hx]
      split
      · rw [if_pos (by rw [List.length_append]; omega), hx', list_refl l F (by omega) hF k (by omega), Option.bind_some, if_pos rfl, live k (by omega)]
        rfl
      · rw [wid (now + _) (by omega) (by omega), wid ((j : Int) + 1) (by omega) (by omega), show ((j : Int) + 1) = ((j + 1 : Nat) : Int) by omega]
        exact ih (j + 1) k _ _ _ _ _ (by omega) (by omega) (by omega) (by omega) hok hx'
    · rw [decide_eq_false c]
      exact fin k now v t got x _ (by omega) hx
theorem push_other (a : Note) (ha : ¬ a.f0 = 11) (hb : ¬ a.f0 = 12) (l : List Note) (hl : l.length < 16) : push l a = (l ++ [a], 0) := by
  unfold push
  rw [if_neg (by omega), if_neg (by omega)]
/-- notes come in, one behind the other -/
theorem into_loop (l : List Note) (F : Nat) (hl : l.length ≤ 16) (hF : ∀ z ∈ l, z.f9.length ≤ maxLen ∧ z.f10.length ≤ maxLen ∧ z.f9.length + z.f10.length ≤ F) (W C A L D M v t now : Int) (h0 : 0 ≤ now) (h1 : now ≤ 4503599627370496) (hr : Rok W C A L D M v t) : ∀ (d i k : Nat), i + d = l.length → 2 * d + F + 300 ≤ k →
    wharflaw19_RateOrder.l0 k l now (i : Int) W C A L D M v t (l.take i) = some true := by
  intro d
  induction d with
  | zero =>
    intro i k hi hk
    obtain ⟨k, rfl⟩ : ∃ m, k = m + 1 := ⟨k - 1, by omega⟩
    simp only [wharflaw19_RateOrder.l0]
    rw [if_neg (by omega)]
    exact order_loop l F hl hF W C A L D M 17 0 k now v t [] _ (by omega) (by omega) h0 h1 hr (by rw [List.nil_append, List.take_of_length_le (by omega)])
  | succ d ih =>
    intro i k hi hk
    obtain ⟨k, rfl⟩ : ∃ m, k = m + 2 := ⟨k - 2, by omega⟩
    have hlt : i < l.length := by omega
    have mid : ∀ b : Bool, (b = false → ¬ (rd_T41 l (i : Int)).f0 = 11 ∧ ¬ (rd_T41 l (i : Int)).f0 = 12) → wharflaw19_RateOrder.j2 (k + 1) l now (i : Int) b W C A L D M v t (l.take i) = some true := by
      intro b hb
      simp only [wharflaw19_RateOrder.j2]
      cases b with
      | true => rw [if_pos rfl, live k (by omega)]; rfl
      | false =>
        obtain ⟨ha, hb⟩ := hb rfl
        rw [if_neg Bool.false_ne_true, if_pos (by omega), if_pos (by omega), Push_eq W C A L D M v t (l.take i) _ (by rw [List.length_take]; omega) k (by omega), Option.bind_some, push_other _ ha hb _ (by rw [List.length_take]; omega)]
        dsimp only
        simp only [wharflaw19_num.f, Option.bind_some]
        rw [if_pos trivial, wid ((i : Int) + 1) (by omega) (by omega), show ((i : Int) + 1) = ((i + 1 : Nat) : Int) by omega, rd_nat l i hlt, ← List.take_succ_eq_append_getElem hlt]
        exact ih (i + 1) k (by omega) (by omega)
    simp only [wharflaw19_RateOrder.l0]
    rw [if_pos (by omega), if_pos (by omega)]
    split
    · exact mid true (fun e => by cases e)
    · rename_i c
      exact mid _ (fun e => ⟨c, beq_eq_false_iff_ne.mp e⟩)
theorem RateOrder : ∀ (a0 : S23) (a1 : List (S41)) (a2 : Int), good23 a0 → (a1.length ≤ maxLen ∧ a1.length * 144 ≤ 140737488351232 ∧ ∀ z ∈ a1, good41 z) → (Lit.int .i64 a2).wf = true → ∃ k, wharflaw19_RateOrder.f k a0.f0 a0.f1 a0.f2 a0.f3 a0.f4 a0.f5 a0.f6 a0.f7 a1 a2 = some true := by
  intro a0 l now _ hg _
  obtain ⟨W, C, A, L, D, M, v, t⟩ := a0
  obtain ⟨K, hK⟩ : ∃ K : Nat, K = fuel l + 1000 := ⟨_, rfl⟩
  refine ⟨K + 1, ?_⟩
  have ht : ∀ b : Bool, (b = false → Rok W C A L D M v t ∧ 0 ≤ now ∧ now ≤ 4503599627370496 ∧ l.length ≤ 16) → wharflaw19_RateOrder.j0 (K + 1) l now b W C A L D M v t = some true := by
    intro b hb
    simp only [wharflaw19_RateOrder.j0]
    cases b with
    | true => rw [if_pos rfl, live K (by omega)]; rfl
    | false =>
      obtain ⟨hr, h0, h1, hl⟩ := hb rfl
      rw [if_neg Bool.false_ne_true]
      refine into_loop l (fuel l) hl (fun z hz => ?_) W C A L D M v t now h0 h1 hr l.length 0 K (by omega) (by omega)
      have gz := hg.2.2 z hz
      unfold good41 at gz
      exact ⟨gz.2.2.2.2.2.2.2.2.2.1.1, gz.2.2.2.2.2.2.2.2.2.2.1, fuel_mem hz⟩
  unfold wharflaw19_RateOrder.f
  dsimp only
  rw [Check_eq W C A L D M v t (K + 1) (by omega), Option.bind_some]
  simp only [wharflaw19_num.f, Option.bind_some]
  by_cases hr : Rok W C A L D M v t
  · rw [if_pos hr, if_pos rfl]
    obtain ⟨r, hw⟩ := line_loop l 61 0 (K + 1) 0 (by omega) (by omega)
    unfold wharflaw19_line.f
    rw [show ((0 : Nat) : Int) = 0 from rfl] at hw
    rw [hw, Option.bind_some]
    split
    · rw [time_eq, Option.bind_some]
      split
      · rename_i c
        rw [decide_eq_true_iff] at c
        refine ht _ (fun e => ⟨hr, c.1, c.2, ?_⟩)
        rw [decide_eq_false_iff_not] at e
        omega
      · exact ht true (fun e => by cases e)
    · exact ht true (fun e => by cases e)
  · rw [if_neg hr, if_neg (by decide)]
    exact ht true (fun e => by cases e)
end Go.Proofs.Ytbeclnffcapfpaa.Pure
