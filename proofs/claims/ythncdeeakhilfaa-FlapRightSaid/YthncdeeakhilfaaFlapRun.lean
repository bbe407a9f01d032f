/-
  A Reader that is fed in pieces reads what the reference reads of all bytes at once.
-/
import Derived.Test.YthncdeeakhilfaaFlapAll
namespace Go.Proofs.Ythncdeeakhilfaa.Flap
open Go.RowKit Go.Proofs.Ythncdeeakhilfaa.H Go.Proofs.YthncdeeakhilfaaW.PrintWords Go.Proofs.Ythncdeeakhilfaa.Tlv Go.Proofs.Ythncdeeakhilfaa.Bytes

def ints (r : List UInt8) : List Int := r.map fun b => (b.toNat : Int)
theorem back (r : List UInt8) : L (strOfNums (ints r)) = r := by
  rw [L_nums]
  unfold ints
  rw [List.map_map]
  have : ((fun n : Int => UInt8.ofNat n.toNat) ∘ fun b : UInt8 => (b.toNat : Int)) = id := by
    funext b
    exact of_toNat b
  rw [this, List.map_id]
theorem flapNum_two (r : List UInt8) (i : Nat) : flapNum (ints r) i = two r i := by
  unfold flapNum two
  have e : ((ints r).take (i + 2)).drop i = ints ((r.drop i).take 2) := by
    unfold ints
    rw [← List.map_take, ← List.map_drop, List.drop_take, show i + 2 - i = 2 by omega]
  rw [e, back]
theorem ints_snoc (r : List UInt8) (c : UInt8) : ints r ++ [(c.toNat : Int)] = ints (r ++ [c]) := by simp [ints]
theorem ints_length (r : List UInt8) : (ints r).length = r.length := by simp [ints]
theorem at_left (r t : List UInt8) (i : Nat) (h : i < r.length) : at_ (r ++ t) i = at_ r i := by
  unfold at_
  rw [List.getD_eq_getElem?_getD, List.getD_eq_getElem?_getD, List.getElem?_append_left h]
theorem two_left (r t : List UInt8) (i : Nat) (h : i + 2 ≤ r.length) : two (r ++ t) i = two r i := by
  unfold two
  rw [List.drop_append_of_le_length (by omega), List.take_append_of_le_length (by rw [List.length_drop]; omega)]
theorem at_last (r : List UInt8) (c : UInt8) : at_ (r ++ [c]) r.length = (c.toNat : Int) := by
  unfold at_
  rw [List.getD_eq_getElem?_getD, List.getElem?_append_right (Nat.le_refl _)]
  simp
/-- a frame under way -/
structure Part (w : Int) (r : List UInt8) (st : FlapSt) : Prop where
  rd : st.rd = ints r
  want : st.want = w
  err : st.err = 0
  inc : parse1 w r = (0, none)
  ch : 2 ≤ r.length → st.ch = at_ r 1
  seq : 4 ≤ r.length → st.seq = two r 2
  size : 6 ≤ r.length → st.size = two r 4
def fresh (w : Int) : FlapSt := ⟨0, 0, ⟨#[]⟩, [], 0, w, 0⟩
theorem parse_nil (w : Int) : parse1 w [] = (0, none) := by
  unfold parse1
  rw [if_neg (by intro h; rcases h with h | h <;> simp at h), if_pos (by simp)]
theorem Part.nil (w : Int) : Part w [] (fresh w) := ⟨rfl, rfl, rfl, parse_nil w, fun h => by simp at h, fun h => by simp at h, fun h => by simp at h⟩
/-- bytes that are incomplete: what is known of them -/
theorem inc_good {w : Int} {r : List UInt8} (h : parse1 w r = (0, none)) : ¬ Bad r ∧ (4 ≤ r.length → ¬ (0 ≤ w ∧ two r 2 ≠ w)) ∧ (6 ≤ r.length → ¬ 8192 < two r 4 ∧ (r.length : Int) < 6 + two r 4) := by
  unfold parse1 at h
  by_cases cb : Bad r
  · rw [if_pos cb] at h
    cases h
  rw [if_neg cb] at h
  refine ⟨cb, ?_⟩
  by_cases c4 : r.length < 4
  · exact ⟨fun h => by omega, fun h => by omega⟩
  rw [if_neg c4] at h
  by_cases cw : 0 ≤ w ∧ two r 2 ≠ w
  · rw [if_pos cw] at h
    cases h
  rw [if_neg cw] at h
  refine ⟨fun _ => cw, ?_⟩
  by_cases c6 : r.length < 6
  · exact fun h => by omega
  rw [if_neg c6] at h
  by_cases c8 : 8192 < two r 4
  · rw [if_pos c8] at h
    cases h
  rw [if_neg c8] at h
  by_cases c9 : (r.length : Int) < 6 + two r 4
  · exact fun _ => ⟨c8, c9⟩
  rw [if_neg c9] at h
  cases h
theorem byte_of (st : FlapSt) (c : Int) (a : FlapSt) (e : Int) (h : flapStep { st with rd := st.rd ++ [c] } c = (a, e)) :
    flapByte st c = if e = 0 ∧ 6 ≤ a.rd.length ∧ (a.rd.length : Int) = 6 + a.size then (fresh (flapNext a.seq), [⟨a.ch, a.seq, strOfNums (a.rd.drop 6)⟩]) else ({ a with err := e }, []) := by
  unfold flapByte
  rw [h]
  rfl
theorem byte_spec (w : Int) (r : List UInt8) (st : FlapSt) (c : UInt8) (h : Part w r st) :
    (parse1 w (r ++ [c]) = (0, none) → ∃ s, flapByte st (c.toNat : Int) = (s, []) ∧ Part w (r ++ [c]) s) ∧
    (∀ e, e ≠ 0 → parse1 w (r ++ [c]) = (e, none) → ∃ s, flapByte st (c.toNat : Int) = (s, []) ∧ s.err = e) ∧
    (∀ e f rest, parse1 w (r ++ [c]) = (e, some (f, rest)) → rest = [] ∧ flapByte st (c.toNat : Int) = (fresh (flapNext f.f1), [f])) := by
  obtain ⟨hb, hw, hz⟩ := inc_good h.inc
  have hlen : (r ++ [c]).length = r.length + 1 := by simp
  have hrl : (st.rd ++ [(c.toNat : Int)]).length = r.length + 1 := by rw [h.rd, ints_snoc, ints_length, hlen]
  have hrd : st.rd ++ [(c.toNat : Int)] = ints (r ++ [c]) := by rw [h.rd, ints_snoc]
  have hlast := at_last r c
  -- what the byte does, by the frame's length
  have go : ∀ (a : FlapSt) (e : Int), flapStep { st with rd := st.rd ++ [(c.toNat : Int)] } (c.toNat : Int) = (a, e) → a.rd = ints (r ++ [c]) → a.want = w →
      (parse1 w (r ++ [c])).1 = e → (e = 0 → (2 ≤ r.length + 1 → a.ch = at_ (r ++ [c]) 1) ∧ (4 ≤ r.length + 1 → a.seq = two (r ++ [c]) 2) ∧ (6 ≤ r.length + 1 → a.size = two (r ++ [c]) 4)) →
      (e = 0 → ((parse1 w (r ++ [c])).2 = none ↔ ¬ (6 ≤ r.length + 1 ∧ ((r.length + 1 : Nat) : Int) = 6 + two (r ++ [c]) 4))) →
      (parse1 w (r ++ [c]) = (0, none) → ∃ s, flapByte st (c.toNat : Int) = (s, []) ∧ Part w (r ++ [c]) s) ∧
      (∀ e, e ≠ 0 → parse1 w (r ++ [c]) = (e, none) → ∃ s, flapByte st (c.toNat : Int) = (s, []) ∧ s.err = e) ∧
      (∀ e f rest, parse1 w (r ++ [c]) = (e, some (f, rest)) → rest = [] ∧ flapByte st (c.toNat : Int) = (fresh (flapNext f.f1), [f])) := by
    intro a e hs ha1 ha2 he hf hd
    have hal : a.rd.length = r.length + 1 := by rw [ha1, ints_length, hlen]
    rw [byte_of st _ a e hs, hal]
    refine ⟨fun hp => ?_, fun e' hne hp => ?_, fun e' f rest hp => ?_⟩
    · rw [hp] at he hd
      have he : e = 0 := he.symm
      obtain ⟨f1, f2, f3⟩ := hf he
      have hn := (hd he).mp rfl
      rw [if_neg (fun hx => hn ⟨hx.2.1, by have := hx.2.2; rw [f3 hx.2.1] at this; exact this⟩)]
      exact ⟨_, rfl, ⟨ha1, ha2, he, hp, fun h2 => f1 (by omega), fun h4 => f2 (by omega), fun h6 => f3 (by omega)⟩⟩
    · rw [hp] at he
      have he : e = e' := he.symm
      subst he
      rw [if_neg (fun hx => hne hx.1)]
      exact ⟨_, rfl, rfl⟩
    · have hp' := hp
      unfold parse1 at hp
      by_cases cb : Bad (r ++ [c])
      · rw [if_pos cb] at hp; cases hp
      rw [if_neg cb] at hp
      by_cases c4 : (r ++ [c]).length < 4
      · rw [if_pos c4] at hp; cases hp
      rw [if_neg c4] at hp
      by_cases cw : 0 ≤ w ∧ two (r ++ [c]) 2 ≠ w
      · rw [if_pos cw] at hp; cases hp
      rw [if_neg cw] at hp
      by_cases c6 : (r ++ [c]).length < 6
      · rw [if_pos c6] at hp; cases hp
      rw [if_neg c6] at hp
      by_cases c8 : 8192 < two (r ++ [c]) 4
      · rw [if_pos c8] at hp; cases hp
      rw [if_neg c8] at hp
      by_cases c9 : ((r ++ [c]).length : Int) < 6 + two (r ++ [c]) 4
      · rw [if_pos c9] at hp; cases hp
      rw [if_neg c9] at hp
      simp only [Prod.mk.injEq, Option.some.injEq] at hp
      obtain ⟨e0, e1, e2⟩ := hp
      rw [hp'] at he hd
      have he : e = 0 := by rw [← he, ← e0]
      obtain ⟨f1, f2, f3⟩ := hf he
      have hyes : 6 ≤ r.length + 1 ∧ ((r.length + 1 : Nat) : Int) = 6 + two (r ++ [c]) 4 := by
        rcases Classical.em (6 ≤ r.length + 1 ∧ ((r.length + 1 : Nat) : Int) = 6 + two (r ++ [c]) 4) with hx | hx
        · exact hx
        · have := (hd he).mpr hx
          cases this
      have hb2 := two_bound (r ++ [c]) 4 (by omega)
      rw [if_pos ⟨he, hyes.1, by rw [f3 hyes.1]; exact hyes.2⟩]
      refine ⟨by rw [← e2]; exact List.drop_of_length_le (by omega), ?_⟩
      rw [← e1, f1 (by omega), f2 (by omega), ha1]
      have hs2 : strOfNums ((ints (r ++ [c])).drop 6) = ⟨(((r ++ [c]).drop 6).take (two (r ++ [c]) 4).toNat).toArray⟩ := by
        apply L_inj
        have : (ints (r ++ [c])).drop 6 = ints ((r ++ [c]).drop 6) := by unfold ints; rw [List.map_drop]
        rw [this, back, L_mk, List.take_of_length_le (by rw [List.length_drop]; omega)]
      rw [hs2]
  have ha : ∀ i, i < r.length → at_ (r ++ [c]) i = at_ r i := fun i hi => at_left r [c] i hi
  have ht : ∀ i, i + 2 ≤ r.length → two (r ++ [c]) i = two r i := fun i hi => two_left r [c] i hi
  have hbad : 2 ≤ r.length → ¬ Bad (r ++ [c]) := fun h2 hx => hb (by
    rcases hx with ⟨_, h0⟩ | ⟨_, h1⟩
    · exact Or.inl ⟨by omega, by rw [← ha 0 (by omega)]; exact h0⟩
    · exact Or.inr ⟨h2, by rw [← ha 1 (by omega)]; exact h1⟩)
  have hcw : 5 ≤ r.length + 1 → ¬ (0 ≤ w ∧ two (r ++ [c]) 2 ≠ w) := fun h5 => by rw [ht 2 (by omega)]; exact hw (by omega)
  by_cases l0 : r.length = 0
  · rw [l0] at hlast
    by_cases c1 : (c.toNat : Int) = 42
    · have nb : ¬ Bad (r ++ [c]) := fun hx => by rcases hx with ⟨_, h0⟩ | ⟨h1, _⟩ <;> omega
      have hp : parse1 w (r ++ [c]) = (0, none) := by unfold parse1; rw [if_neg nb, if_pos (by omega)]
      refine go { st with rd := st.rd ++ [(c.toNat : Int)] } 0 (by unfold flapStep; dsimp only; rw [hrl, if_pos (by omega), if_pos c1]) hrd h.want (by rw [hp]) (fun _ => ⟨fun _ => by omega, fun _ => by omega, fun _ => by omega⟩) (fun _ => by rw [hp]; exact ⟨fun _ hx => by omega, fun _ => rfl⟩)
    · have bb : Bad (r ++ [c]) := Or.inl ⟨by omega, by omega⟩
      have hp : parse1 w (r ++ [c]) = (120, none) := by unfold parse1; rw [if_pos bb]
      refine go { st with rd := st.rd ++ [(c.toNat : Int)] } 120 (by unfold flapStep; dsimp only; rw [hrl, if_pos (by omega), if_neg c1]) hrd h.want (by rw [hp]) (fun e => by omega) (fun e => by omega)
  by_cases l1 : r.length = 1
  · rw [l1] at hlast
    have h42 : at_ r 0 = 42 := Classical.byContradiction fun hx => hb (Or.inl ⟨by omega, hx⟩)
    have h42' : at_ (r ++ [c]) 0 = 42 := by rw [ha 0 (by omega)]; exact h42
    by_cases c1 : (c.toNat : Int) < 1 ∨ 5 < (c.toNat : Int)
    · have bb : Bad (r ++ [c]) := Or.inr ⟨by omega, by omega⟩
      have hp : parse1 w (r ++ [c]) = (120, none) := by unfold parse1; rw [if_pos bb]
      refine go { st with rd := st.rd ++ [(c.toNat : Int)], ch := (c.toNat : Int) } 120 (by unfold flapStep; dsimp only; rw [hrl, if_neg (by omega), if_pos (by omega), if_pos c1]) hrd h.want (by rw [hp]) (fun e => by omega) (fun e => by omega)
    · have nb : ¬ Bad (r ++ [c]) := fun hx => by rcases hx with ⟨_, h0⟩ | ⟨_, h1⟩ <;> omega
      have hp : parse1 w (r ++ [c]) = (0, none) := by unfold parse1; rw [if_neg nb, if_pos (by omega)]
      refine go { st with rd := st.rd ++ [(c.toNat : Int)], ch := (c.toNat : Int) } 0 (by unfold flapStep; dsimp only; rw [hrl, if_neg (by omega), if_pos (by omega), if_neg c1]) hrd h.want (by rw [hp]) (fun _ => ⟨fun _ => hlast.symm, fun _ => by omega, fun _ => by omega⟩) (fun _ => by rw [hp]; exact ⟨fun _ hx => by omega, fun _ => rfl⟩)
  have nb := hbad (by omega)
  have hch : st.ch = at_ (r ++ [c]) 1 := by rw [h.ch (by omega), ha 1 (by omega)]
  by_cases l2 : r.length = 2
  · have hp : parse1 w (r ++ [c]) = (0, none) := by unfold parse1; rw [if_neg nb, if_pos (by omega)]
    refine go { st with rd := st.rd ++ [(c.toNat : Int)] } 0 (by unfold flapStep; dsimp only; rw [hrl, if_neg (by omega), if_neg (by omega), if_neg (by omega), if_neg (by omega)]) hrd h.want (by rw [hp]) (fun _ => ⟨fun _ => hch, fun _ => by omega, fun _ => by omega⟩) (fun _ => by rw [hp]; exact ⟨fun _ hx => by omega, fun _ => rfl⟩)
  by_cases l3 : r.length = 3
  · have hq : flapNum (st.rd ++ [(c.toNat : Int)]) 2 = two (r ++ [c]) 2 := by rw [hrd, flapNum_two]
    by_cases cw : 0 ≤ w ∧ two (r ++ [c]) 2 ≠ w
    · have hp : parse1 w (r ++ [c]) = (121, none) := by unfold parse1; rw [if_neg nb, if_neg (by omega), if_pos cw]
      refine go { st with rd := st.rd ++ [(c.toNat : Int)], seq := two (r ++ [c]) 2 } 121 (by unfold flapStep; dsimp only; rw [hrl, if_neg (by omega), if_neg (by omega), if_pos (by omega), hq, h.want, if_pos cw]) hrd h.want (by rw [hp]) (fun e => by omega) (fun e => by omega)
    · have hp : parse1 w (r ++ [c]) = (0, none) := by unfold parse1; rw [if_neg nb, if_neg (by omega), if_neg cw, if_pos (by omega)]
      refine go { st with rd := st.rd ++ [(c.toNat : Int)], seq := two (r ++ [c]) 2 } 0 (by unfold flapStep; dsimp only; rw [hrl, if_neg (by omega), if_neg (by omega), if_pos (by omega), hq, h.want, if_neg cw]) hrd h.want (by rw [hp]) (fun _ => ⟨fun _ => hch, fun _ => rfl, fun _ => by omega⟩) (fun _ => by rw [hp]; exact ⟨fun _ hx => by omega, fun _ => rfl⟩)
  have cw := hcw (by omega)
  have hsq : st.seq = two (r ++ [c]) 2 := by rw [h.seq (by omega), ht 2 (by omega)]
  by_cases l4 : r.length = 4
  · have hp : parse1 w (r ++ [c]) = (0, none) := by unfold parse1; rw [if_neg nb, if_neg (by omega), if_neg cw, if_pos (by omega)]
    refine go { st with rd := st.rd ++ [(c.toNat : Int)] } 0 (by unfold flapStep; dsimp only; rw [hrl, if_neg (by omega), if_neg (by omega), if_neg (by omega), if_neg (by omega)]) hrd h.want (by rw [hp]) (fun _ => ⟨fun _ => hch, fun _ => hsq, fun _ => by omega⟩) (fun _ => by rw [hp]; exact ⟨fun _ hx => by omega, fun _ => rfl⟩)
  by_cases l5 : r.length = 5
  · have hq : flapNum (st.rd ++ [(c.toNat : Int)]) 4 = two (r ++ [c]) 4 := by rw [hrd, flapNum_two]
    have hb2 := two_bound (r ++ [c]) 4 (by omega)
    by_cases c8 : 8192 < two (r ++ [c]) 4
    · have hp : parse1 w (r ++ [c]) = (1, none) := by unfold parse1; rw [if_neg nb, if_neg (by omega), if_neg cw, if_neg (by omega), if_pos c8]
      refine go { st with rd := st.rd ++ [(c.toNat : Int)], size := two (r ++ [c]) 4 } 1 (by unfold flapStep; dsimp only; rw [hrl, if_neg (by omega), if_neg (by omega), if_neg (by omega), if_pos (by omega), hq, if_pos c8]) hrd h.want (by rw [hp]) (fun e => by omega) (fun e => by omega)
    · refine go { st with rd := st.rd ++ [(c.toNat : Int)], size := two (r ++ [c]) 4 } 0 (by unfold flapStep; dsimp only; rw [hrl, if_neg (by omega), if_neg (by omega), if_neg (by omega), if_pos (by omega), hq, if_neg c8]) hrd h.want ?_ (fun _ => ⟨fun _ => hch, fun _ => hsq, fun _ => rfl⟩) (fun _ => ?_)
      · unfold parse1; rw [if_neg nb, if_neg (by omega), if_neg cw, if_neg (by omega), if_neg c8]; split <;> rfl
      · unfold parse1; rw [if_neg nb, if_neg (by omega), if_neg cw, if_neg (by omega), if_neg c8]
        by_cases c9 : ((r ++ [c]).length : Int) < 6 + two (r ++ [c]) 4
        · rw [if_pos c9]; exact ⟨fun _ hx => by omega, fun _ => rfl⟩
        · rw [if_neg c9]; exact ⟨(fun hx => by cases hx), fun hx => absurd ⟨by omega, by omega⟩ hx⟩
  · obtain ⟨z1, z2⟩ := hz (by omega)
    have ht4 := ht 4 (by omega)
    have hb2 := two_bound (r ++ [c]) 4 (by omega)
    have c8 : ¬ 8192 < two (r ++ [c]) 4 := by omega
    have hsz : st.size = two (r ++ [c]) 4 := by rw [h.size (by omega), ht4]
    refine go { st with rd := st.rd ++ [(c.toNat : Int)] } 0 (by unfold flapStep; dsimp only; rw [hrl, if_neg (by omega), if_neg (by omega), if_neg (by omega), if_neg (by omega)]) hrd h.want ?_ (fun _ => ⟨fun _ => hch, fun _ => hsq, fun _ => hsz⟩) (fun _ => ?_)
    · unfold parse1; rw [if_neg nb, if_neg (by omega), if_neg cw, if_neg (by omega), if_neg c8]; split <;> rfl
    · unfold parse1; rw [if_neg nb, if_neg (by omega), if_neg cw, if_neg (by omega), if_neg c8]
      by_cases c9 : ((r ++ [c]).length : Int) < 6 + two (r ++ [c]) 4
      · rw [if_pos c9]; exact ⟨fun _ hx => by omega, fun _ => rfl⟩
      · rw [if_neg c9]; exact ⟨(fun hx => by cases hx), fun hx => absurd ⟨by omega, by omega⟩ hx⟩
/-- more bytes behind: an error stays, a frame stays -/
theorem parse_more (w : Int) (r t : List UInt8) : (∀ e, e ≠ 0 → parse1 w r = (e, none) → parse1 w (r ++ t) = (e, none)) ∧ (∀ e f rest, parse1 w r = (e, some (f, rest)) → parse1 w (r ++ t) = (e, some (f, rest ++ t))) := by
  have hlen : (r ++ t).length = r.length + t.length := List.length_append
  have hbad : Bad r → Bad (r ++ t) := fun hx => by
    rcases hx with ⟨h1, h0⟩ | ⟨h1, h0⟩
    · exact Or.inl ⟨by omega, by rw [at_left r t 0 (by omega)]; exact h0⟩
    · exact Or.inr ⟨by omega, by rw [at_left r t 1 (by omega)]; exact h0⟩
  have hgood : 2 ≤ r.length → ¬ Bad r → ¬ Bad (r ++ t) := fun h2 hb hx => hb (by
    rcases hx with ⟨_, h0⟩ | ⟨_, h1⟩
    · exact Or.inl ⟨by omega, by rw [← at_left r t 0 (by omega)]; exact h0⟩
    · exact Or.inr ⟨h2, by rw [← at_left r t 1 (by omega)]; exact h1⟩)
  unfold parse1
  by_cases cb : Bad r
  · rw [if_pos cb, if_pos (hbad cb)]
    exact ⟨fun e _ h => h, fun e f rest h => by cases h⟩
  rw [if_neg cb]
  by_cases c4 : r.length < 4
  · rw [if_pos c4]
    exact ⟨fun e hne h => absurd (Prod.mk.inj h).1.symm hne, fun e f rest h => by cases h⟩
  rw [if_neg c4, if_neg (hgood (by omega) cb), if_neg (show ¬ (r ++ t).length < 4 by omega), two_left r t 2 (by omega)]
  by_cases cw : 0 ≤ w ∧ two r 2 ≠ w
  · rw [if_pos cw, if_pos cw]
    exact ⟨fun e _ h => h, fun e f rest h => by cases h⟩
  rw [if_neg cw, if_neg cw]
  by_cases c6 : r.length < 6
  · rw [if_pos c6]
    exact ⟨fun e hne h => absurd (Prod.mk.inj h).1.symm hne, fun e f rest h => by cases h⟩
  rw [if_neg c6, if_neg (show ¬ (r ++ t).length < 6 by omega), two_left r t 4 (by omega)]
  by_cases c8 : 8192 < two r 4
  · rw [if_pos c8, if_pos c8]
    exact ⟨fun e _ h => h, fun e f rest h => by cases h⟩
  rw [if_neg c8, if_neg c8]
  by_cases c9 : (r.length : Int) < 6 + two r 4
  · rw [if_pos c9]
    exact ⟨fun e hne h => absurd (Prod.mk.inj h).1.symm hne, fun e f rest h => by cases h⟩
  rw [if_neg c9, if_neg (show ¬ ((r ++ t).length : Int) < 6 + two r 4 by omega)]
  have hb2 := two_bound r 4 (by omega)
  refine ⟨(fun e hne h => by cases h), fun e f rest h => ?_⟩
  simp only [Prod.mk.injEq, Option.some.injEq] at h ⊢
  obtain ⟨h1, h2, h3⟩ := h
  refine ⟨h1, ?_, ?_⟩
  · rw [← h2, at_left r t 1 (by omega), List.drop_append_of_le_length (by omega), List.take_append_of_le_length (by rw [List.length_drop]; omega)]
  · rw [← h3, List.drop_append_of_le_length (by omega)]
theorem parse_rest {w : Int} {l : List UInt8} {e : Int} {f : Fr} {rest : List UInt8} (h : parse1 w l = (e, some (f, rest))) : rest.length + 6 ≤ l.length := by
  unfold parse1 at h
  by_cases cb : Bad l
  · rw [if_pos cb] at h; cases h
  rw [if_neg cb] at h
  by_cases c4 : l.length < 4
  · rw [if_pos c4] at h; cases h
  rw [if_neg c4] at h
  by_cases cw : 0 ≤ w ∧ two l 2 ≠ w
  · rw [if_pos cw] at h; cases h
  rw [if_neg cw] at h
  by_cases c6 : l.length < 6
  · rw [if_pos c6] at h; cases h
  rw [if_neg c6] at h
  by_cases c8 : 8192 < two l 4
  · rw [if_pos c8] at h; cases h
  rw [if_neg c8] at h
  by_cases c9 : (l.length : Int) < 6 + two l 4
  · rw [if_pos c9] at h; cases h
  rw [if_neg c9] at h
  simp only [Prod.mk.injEq, Option.some.injEq] at h
  rw [← h.2.2, List.length_drop]
  omega
/-- what a Reader tells -/
def tells (p : FlapSt × List Fr) : List Fr × Int × Int := (p.2, p.1.err, flapLeft p.1)
theorem run_all : ∀ (l r : List UInt8) (k : Nat) (w : Int) (st : FlapSt) (out : List Fr), Part w r st → (r ++ l).length < k → tells (flapRun l st out) = allW k w (r ++ l) out := by
  intro l
  induction l with
  | nil =>
    intro r k w st out h hk
    obtain ⟨k, rfl⟩ : ∃ m, k = m + 1 := ⟨k - 1, by omega⟩
    rw [List.append_nil]
    simp only [allW, flapRun]
    rw [h.inc]
    unfold tells flapLeft
    rw [h.err, if_pos rfl, h.rd, ints_length]
    rfl
  | cons c l ih =>
    intro r k w st out h hk
    obtain ⟨s1, s2, s3⟩ := byte_spec w r st c h
    obtain ⟨m1, m2⟩ := parse_more w (r ++ [c]) l
    have e : r ++ c :: l = r ++ [c] ++ l := by simp
    simp only [flapRun]
    rw [if_pos h.err, e]
    rw [e] at hk
    rcases hp : parse1 w (r ++ [c]) with ⟨er, _ | ⟨f, rest⟩⟩
    · by_cases h0 : er = 0
      · rw [h0] at hp
        obtain ⟨s, hs, hP⟩ := s1 hp
        rw [hs, List.append_nil]
        exact ih (r ++ [c]) k w s out hP hk
      · obtain ⟨s, hs, hse⟩ := s2 er h0 hp
        obtain ⟨k, rfl⟩ : ∃ m, k = m + 1 := ⟨k - 1, by omega⟩
        simp only [allW]
        rw [hs, List.append_nil, flapRun_err l s out (by rw [hse]; exact h0), m1 er h0 hp]
        dsimp only
        rw [if_neg h0]
        unfold tells flapLeft
        rw [hse, if_neg h0]
    · obtain ⟨hr, hs⟩ := s3 er f rest hp
      obtain ⟨k, rfl⟩ : ∃ m, k = m + 1 := ⟨k - 1, by omega⟩
      have hm := m2 er f rest hp
      rw [hr, List.nil_append] at hm
      simp only [allW]
      rw [hs, hm]
      dsimp only
      have := ih [] k (flapNext f.f1) (fresh (flapNext f.f1)) (out ++ [f]) (Part.nil _) (by rw [List.nil_append]; rw [List.length_append, List.length_append] at hk; simp at hk; omega)
      rw [List.nil_append] at this
      exact this
theorem run_new (l : List UInt8) (k : Nat) (hk : l.length < k) : tells (flapRun l flapNew []) = allW k (-1) l [] := by
  have := run_all l [] k (-1) flapNew [] (Part.nil (-1)) (by rw [List.nil_append]; exact hk)
  rw [List.nil_append] at this
  exact this
end Go.Proofs.Ythncdeeakhilfaa.Flap
