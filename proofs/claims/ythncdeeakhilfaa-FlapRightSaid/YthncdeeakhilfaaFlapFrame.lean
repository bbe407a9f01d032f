/-
  A frame's bytes are read as that frame; a Reader's list that is compared with itself.
-/
import Derived.Test.YthncdeeakhilfaaFlapRun
namespace Go.Proofs.Ythncdeeakhilfaa.Flap
open Go.RowKit Go.Proofs.Ythncdeeakhilfaa.H Go.Proofs.YthncdeeakhilfaaW.PrintWords Go.Proofs.Ythncdeeakhilfaa.Tlv Go.Proofs.Ythncdeeakhilfaa.Bytes

theorem same_loop (l : List Fr) (hl : l.length ≤ 1000000) : ∀ (d i k : Nat), i + d = l.length → d < k → wharfref12_Same.l0 k l l (i : Int) = some true := by
  intro d
  induction d with
  | zero =>
    intro i k hi hk
    obtain ⟨k, rfl⟩ : ∃ m, k = m + 1 := ⟨k - 1, by omega⟩
    simp only [wharfref12_Same.l0]
    rw [if_neg (by omega)]
  | succ d ih =>
    intro i k hi hk
    obtain ⟨k, rfl⟩ : ∃ m, k = m + 1 := ⟨k - 1, by omega⟩
    simp only [wharfref12_Same.l0]
    rw [if_pos (by omega), if_pos (by omega), if_pos (by omega), if_neg (by simp), wrap_id _ (by omega) (by omega)]
    exact ih (i + 1) k (by omega) (by omega)
theorem same_self (l : List Fr) (hl : l.length ≤ 1000000) (k : Nat) (hk : l.length < k) : wharfref12_Same.f k l l = some true := by
  unfold wharfref12_Same.f
  rw [if_pos rfl]
  exact same_loop l hl l.length 0 k (by omega) hk
theorem frame_list (ch seq : Int) (data : ByteArray) (h : Fok ch seq) (hd : data.size ≤ 8192) : ∃ s1 s2 z1 z2 : UInt8, L (frameB ch seq data) = 42 :: UInt8.ofNat ch.toNat :: s1 :: s2 :: z1 :: z2 :: L data ∧ num [s1, s2] 0 = seq ∧ num [z1, z2] 0 = (data.size : Int) := by
  obtain ⟨h1, h2, h3, h4⟩ := h
  have n1 := num_bytes seq 2 ((fits_iff _ _).mpr ⟨h3, Or.inr (Or.inl ⟨rfl, by omega⟩)⟩)
  have n2 := num_bytes data.size 2 ((fits_iff _ _).mpr ⟨by omega, Or.inr (Or.inl ⟨rfl, by omega⟩)⟩)
  have z1 := bytes_size seq 2 (Or.inr (Or.inl rfl))
  have z2 := bytes_size data.size 2 (Or.inr (Or.inl rfl))
  rw [size_L] at z1 z2
  have e : L (frameB ch seq data) = [42, UInt8.ofNat ch.toNat] ++ L (nbytes seq 2) ++ (L (nbytes data.size 2) ++ L data) := by
    unfold frameB
    rw [L_append, L_append, L_append, L_nums]
    rfl
  generalize L (nbytes seq 2) = p at *
  generalize L (nbytes data.size 2) = q at *
  match p, z1, q, z2 with
  | [a, b], _, [c, d], _ => exact ⟨a, b, c, d, e, n1, n2⟩
theorem frame_parse (ch seq : Int) (data : ByteArray) (h : Fok ch seq) (hd : data.size ≤ 8192) (w : Int) (t : List UInt8) :
    parse1 w (L (frameB ch seq data) ++ t) = if 0 ≤ w ∧ seq ≠ w then (121, none) else (0, some (⟨ch, seq, data⟩, t)) := by
  obtain ⟨s1, s2, z1, z2, e, n1, n2⟩ := frame_list ch seq data h hd
  obtain ⟨h1, h2, h3, h4⟩ := h
  rw [e]
  have hsz : (L data).length = data.size := rfl
  have a0 : at_ ((42 :: UInt8.ofNat ch.toNat :: s1 :: s2 :: z1 :: z2 :: L data) ++ t) 0 = 42 := rfl
  have a1 : at_ ((42 :: UInt8.ofNat ch.toNat :: s1 :: s2 :: z1 :: z2 :: L data) ++ t) 1 = ch := toNat_ofNat ch (by omega) (by omega)
  have t2 : two ((42 :: UInt8.ofNat ch.toNat :: s1 :: s2 :: z1 :: z2 :: L data) ++ t) 2 = seq := n1
  have t4 : two ((42 :: UInt8.ofNat ch.toNat :: s1 :: s2 :: z1 :: z2 :: L data) ++ t) 4 = (data.size : Int) := n2
  have hl : ((42 :: UInt8.ofNat ch.toNat :: s1 :: s2 :: z1 :: z2 :: L data) ++ t).length = 6 + data.size + t.length := by simp [hsz]; omega
  have d6 : ((42 :: UInt8.ofNat ch.toNat :: s1 :: s2 :: z1 :: z2 :: L data) ++ t).drop 6 = L data ++ t := rfl
  generalize (42 :: UInt8.ofNat ch.toNat :: s1 :: s2 :: z1 :: z2 :: L data) ++ t = l at *
  have nb : ¬ Bad l := fun hx => by rcases hx with ⟨_, h0⟩ | ⟨_, h0⟩ <;> omega
  unfold parse1
  rw [if_neg nb, if_neg (by omega), t2]
  by_cases cw : 0 ≤ w ∧ seq ≠ w
  · rw [if_pos cw, if_pos cw]
  rw [if_neg cw, if_neg cw, if_neg (by omega), t4, if_neg (by omega), if_neg (by omega), a1, Int.toNat_natCast, d6, ← List.drop_drop, d6, ← hsz, List.take_left, List.drop_left]
theorem run_frame (w : Int) : ∀ (l r : List UInt8) (st : FlapSt) (out : List Fr) (e : Int) (f : Fr), Part w r st → parse1 w (r ++ l) = (e, some (f, [])) → flapRun l st out = (fresh (flapNext f.f1), out ++ [f]) := by
  intro l
  induction l with
  | nil =>
    intro r st out e f h hp
    rw [List.append_nil, h.inc] at hp
    cases hp
  | cons c l ih =>
    intro r st out e f h hp
    obtain ⟨s1, s2, s3⟩ := byte_spec w r st c h
    obtain ⟨m1, m2⟩ := parse_more w (r ++ [c]) l
    have e0 : r ++ c :: l = r ++ [c] ++ l := by simp
    rw [e0] at hp
    simp only [flapRun]
    rw [if_pos h.err]
    rcases hq : parse1 w (r ++ [c]) with ⟨er, _ | ⟨f', rest⟩⟩
    · by_cases h0 : er = 0
      · rw [h0] at hq
        obtain ⟨s, hs, hP⟩ := s1 hq
        rw [hs, List.append_nil]
        exact ih (r ++ [c]) s out e f hP hp
      · rw [m1 er h0 hq] at hp
        cases hp
    · obtain ⟨hr, hs⟩ := s3 er f' rest hq
      have hm := m2 er f' rest hq
      rw [hp, hr, List.nil_append] at hm
      simp only [Prod.mk.injEq, Option.some.injEq] at hm
      obtain ⟨_, rfl, rfl⟩ := hm
      rw [hs]
      rfl
theorem run_error (w : Int) : ∀ (l r : List UInt8) (st : FlapSt) (out : List Fr) (e : Int), e ≠ 0 → Part w r st → parse1 w (r ++ l) = (e, none) → ∃ s, flapRun l st out = (s, out) ∧ s.err = e := by
  intro l
  induction l with
  | nil =>
    intro r st out e he h hp
    rw [List.append_nil, h.inc] at hp
    exact absurd (Prod.mk.inj hp).1.symm he
  | cons c l ih =>
    intro r st out e he h hp
    obtain ⟨s1, s2, s3⟩ := byte_spec w r st c h
    obtain ⟨m1, m2⟩ := parse_more w (r ++ [c]) l
    have e0 : r ++ c :: l = r ++ [c] ++ l := by simp
    rw [e0] at hp
    simp only [flapRun]
    rw [if_pos h.err]
    rcases hq : parse1 w (r ++ [c]) with ⟨er, _ | ⟨f', rest⟩⟩
    · by_cases h0 : er = 0
      · rw [h0] at hq
        obtain ⟨s, hs, hP⟩ := s1 hq
        rw [hs, List.append_nil]
        exact ih (r ++ [c]) s out e he hP hp
      · obtain ⟨s, hs, hse⟩ := s2 er h0 hq
        have hm := m1 er h0 hq
        rw [hp] at hm
        have : e = er := (Prod.mk.inj hm).1
        rw [hs, List.append_nil, flapRun_err l s out (by rw [hse]; exact h0)]
        exact ⟨s, rfl, by rw [hse, this]⟩
    · have hm := m2 er f' rest hq
      rw [hp] at hm
      cases hm
end Go.Proofs.Ythncdeeakhilfaa.Flap
