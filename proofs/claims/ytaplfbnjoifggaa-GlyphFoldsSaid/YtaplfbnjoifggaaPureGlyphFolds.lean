import Derived.Test.YtaplfbnjoifggaaHx5
import Derived.Test.YtaplfbnjoifggaaGood
import Derived.Test.YtaplfbnjoifggaaGlyphLive
import Derived.Test.YtaplfbnjoifggaaFolds
namespace Go.Proofs.Ytaplfbnjoifggaa.Pure
open Go.RowKit Go.Proofs.Ytaplfbnjoifggaa.H Go.Proofs.YtaplfbnjoifggaaW.PrintWords Go.Proofs.YtaplfbnjoifggaaW.PrintLast Go.Proofs.YtaplfbnjoifggaaW.PrintMore Go.Proofs.Ytaplfbnjoifggaa.Utf Go.Proofs.Ytaplfbnjoifggaa.Bytes

theorem foldR_all : ∀ n : Nat, n < 256 → foldByteR (n : Int) = if 65 ≤ n ∧ n ≤ 90 then ((n + 32 : Nat) : Int) else (n : Int) := by decide +kernel
theorem refFold_eq (s : ByteArray) (hs : s.size ≤ 140737488351232) : ∃ r, wharfref01_Fold.f s = some r ∧ L r = (L s).map foldU := by
  unfold wharfref01_Fold.f
  rw [if_pos (by omega)]
  refine ⟨_, rfl, ?_⟩
  rw [L_nums, bytesOf, List.map_map, List.map_map]
  refine List.map_congr_left fun u _ => ?_
  have hu := u.toNat_lt
  show UInt8.ofNat (foldByteR (u.toNat : Int)).toNat = foldU u
  rw [foldR_all u.toNat (by omega)]
  unfold foldU
  split
  · rfl
  · simp
theorem refBlank_eq (u : UInt8) : wharfref01_blank.f (u.toNat : Int) = some (blankU u) := isBlank_eq u
theorem refTrim_back : ∀ (d : Nat) (s : ByteArray) (k : Nat), s.size = d → d ≤ 140737488351232 → d < k → ∃ r, wharfref01_Trim.l1 k s = some r ∧ L r = trimR (L s) := by
  intro d
  induction d with
  | zero =>
    intro s k h h1 hk
    obtain ⟨k, rfl⟩ : ∃ m, k = m + 1 := ⟨k - 1, by omega⟩
    have h0 : L s = [] := List.length_eq_zero_iff.mp h
    simp only [wharfref01_Trim.l1]
    rw [toList_L, if_pos h0]
    exact ⟨s, rfl, by rw [h0]; rfl⟩
  | succ d ih =>
    intro s k h h1 hk
    obtain ⟨k, rfl⟩ : ∃ m, k = m + 1 := ⟨k - 1, by omega⟩
    have hlt : d < (L s).length := by rw [← size_L]; omega
    have hne : L s ≠ [] := fun e => by rw [e] at hlt; simp at hlt
    have hd : L s = (L s).take d ++ [(L s)[d]] := by
      have := List.take_succ_eq_append_getElem hlt
      rw [← this, List.take_of_length_le (by rw [← size_L]; omega)]
    have hw : wrap64 ((s.size : Int) - 1) = (d : Int) := by rw [wrap_id _ (by omega) (by omega)]; omega
    simp only [wharfref01_Trim.l1]
    rw [toList_L, if_neg hne, hw, if_pos (by omega), if_pos (by omega), bt_get s _ hlt, refBlank_eq]
    simp only [Option.bind_some]
    by_cases hb : blankU (L s)[d] = true
    · rw [if_pos hb, if_pos (by omega), Int.toNat_natCast]
      obtain ⟨r, hr, hL⟩ := ih (s.extract 0 d) k (by rw [ByteArray.size_extract]; omega) (by omega) (by omega)
      refine ⟨r, hr, ?_⟩
      rw [hL, L_head]
      unfold trimR
      rw [congrArg List.reverse hd, List.reverse_append, List.reverse_singleton, List.singleton_append, List.dropWhile_cons_of_pos hb]
    · rw [if_neg hb]
      refine ⟨s, rfl, ?_⟩
      unfold trimR
      rw [congrArg List.reverse hd, List.reverse_append, List.reverse_singleton, List.singleton_append, List.dropWhile_cons_of_neg hb, List.reverse_cons, List.reverse_reverse]
      exact hd
theorem refTrim_front : ∀ (d : Nat) (s : ByteArray) (k : Nat), s.size = d → d ≤ 140737488351232 → 2 * d + 4 ≤ k → ∃ r, wharfref01_Trim.l0 k s = some r ∧ L r = trimR (trimL (L s)) := by
  intro d
  induction d with
  | zero =>
    intro s k h h1 hk
    obtain ⟨k, rfl⟩ : ∃ m, k = m + 2 := ⟨k - 2, by omega⟩
    have h0 : L s = [] := List.length_eq_zero_iff.mp h
    simp only [wharfref01_Trim.l0]
    rw [toList_L, if_pos h0]
    simp only [wharfref01_Trim.j1]
    obtain ⟨r, hr, hL⟩ := refTrim_back 0 s k h (by omega) (by omega)
    refine ⟨r, hr, ?_⟩
    rw [hL, h0]
    rfl
  | succ d ih =>
    intro s k h h1 hk
    obtain ⟨k, rfl⟩ : ∃ m, k = m + 1 := ⟨k - 1, by omega⟩
    have hlt : 0 < (L s).length := by rw [← size_L]; omega
    have hne : L s ≠ [] := fun e => by rw [e] at hlt; simp at hlt
    have h0 := bt_get s 0 hlt
    rw [show ((0 : Nat) : Int) = 0 from rfl] at h0
    have hd : L s = (L s)[0] :: (L s).drop 1 := by
      have := List.drop_eq_getElem_cons hlt
      rwa [List.drop_zero] at this
    simp only [wharfref01_Trim.l0]
    rw [toList_L, if_neg hne, if_pos (by omega), h0, refBlank_eq]
    simp only [Option.bind_some]
    by_cases hb : blankU (L s)[0] = true
    · rw [if_pos hb, if_pos (by omega)]
      obtain ⟨r, hr, hL⟩ := ih (s.extract 1 s.size) k (by rw [ByteArray.size_extract]; omega) (by omega) (by omega)
      refine ⟨r, hr, ?_⟩
      rw [hL, L_tail]
      unfold trimL
      rw [congrArg (List.dropWhile blankU) hd, List.dropWhile_cons_of_pos hb]
    · rw [if_neg hb]
      obtain ⟨k, rfl⟩ : ∃ m, k = m + 1 := ⟨k - 1, by omega⟩
      simp only [wharfref01_Trim.j1]
      obtain ⟨r, hr, hL⟩ := refTrim_back (d + 1) s k h (by omega) (by omega)
      refine ⟨r, hr, ?_⟩
      rw [hL]
      unfold trimL
      rw [congrArg (List.dropWhile blankU) hd, List.dropWhile_cons_of_neg hb, ← hd]
theorem refHead_loop (s : ByteArray) (hs : s.size ≤ 140737488351232) : ∀ (m k : Nat), m ≤ s.size → m < k → ∃ r, wharfref01_Head.l0 k s (m : Int) = some r ∧ L r = (L s).take (if m < s.size then headAt (L s) m else m) := by
  intro m
  induction m with
  | zero =>
    intro k h hk
    obtain ⟨k, rfl⟩ : ∃ m, k = m + 1 := ⟨k - 1, by omega⟩
    simp only [wharfref01_Head.l0]
    rw [if_neg (by omega), if_pos (by omega), if_pos (by omega)]
    refine ⟨_, rfl, ?_⟩
    rw [L_head]
    split <;> rfl
  | succ m ih =>
    intro k h hk
    obtain ⟨k, rfl⟩ : ∃ m, k = m + 1 := ⟨k - 1, by omega⟩
    simp only [wharfref01_Head.l0]
    have hb : bt s ((m + 1 : Nat) : Int) = (((L s).getD (m + 1) 0).toNat : Int) := by rw [bt_L, Int.toNat_natCast]
    have hu := ((L s).getD (m + 1) 0).toNat_lt
    rw [if_pos (by omega)]
    by_cases hlt : m + 1 < s.size
    · rw [if_pos (by omega), if_pos (by omega), hb, if_pos hlt, headAt]
      by_cases h1 : 128 ≤ ((L s).getD (m + 1) 0).toNat
      · rw [if_pos (by omega)]
        by_cases h2 : ((L s).getD (m + 1) 0).toNat < 192
        · rw [if_pos (by omega)]
          have hw : wrap64 (((m + 1 : Nat) : Int) - 1) = (m : Int) := by rw [wrap_id _ (by omega) (by omega)]; omega
          rw [hw]
          obtain ⟨r, hr, hL⟩ := ih k (by omega) (by omega)
          refine ⟨r, hr, ?_⟩
          have hx : ((L s).getD (m + 1) 0).toNat / 64 = 2 := by omega
          rw [hL, if_pos (by omega), if_pos (by unfold contU; rw [hx]; rfl)]
        · rw [if_neg (by omega), if_pos (by omega)]
          refine ⟨_, rfl, ?_⟩
          have hx : ¬ ((L s).getD (m + 1) 0).toNat / 64 = 2 := by omega
          rw [L_head, Int.toNat_natCast, if_neg (by unfold contU; simpa using hx)]
      · rw [if_neg (by omega), if_pos (by omega)]
        refine ⟨_, rfl, ?_⟩
        have hx : ¬ ((L s).getD (m + 1) 0).toNat / 64 = 2 := by omega
        rw [L_head, Int.toNat_natCast, if_neg (by unfold contU; simpa using hx)]
    · rw [if_neg (by omega), if_pos (by omega), if_pos (by omega), if_neg hlt]
      refine ⟨_, rfl, ?_⟩
      rw [L_head, Int.toNat_natCast]
theorem refHead_eq (s : ByteArray) (hs : s.size ≤ 140737488351232) (n : Int) (k : Nat) (hk : s.size + 1 ≤ k) : ∃ r, wharfref01_Head.f k s n = some r ∧ L r = (L s).take (headLen (L s) n) := by
  unfold wharfref01_Head.f headLen
  by_cases hn : n < 0
  · have hm : mn (mx n 0) (s.size : Int) = ((0 : Nat) : Int) := by unfold mn mx; rw [if_pos hn]; split <;> omega
    rw [hm]
    obtain ⟨r, hr, hL⟩ := refHead_loop s hs 0 k (by omega) (by omega)
    refine ⟨r, hr, ?_⟩
    have h0 : (if 0 < s.size then headAt (L s) 0 else 0) = 0 := by split <;> rfl
    rw [hL, h0, if_neg (by omega), if_pos hn]
    rfl
  · by_cases h : n ≥ (s.size : Int)
    · have hm : mn (mx n 0) (s.size : Int) = (s.size : Int) := by unfold mn mx; rw [if_neg hn]; split <;> omega
      rw [hm]
      obtain ⟨r, hr, hL⟩ := refHead_loop s hs s.size k (by omega) (by omega)
      refine ⟨r, hr, ?_⟩
      rw [hL, if_neg (by omega), if_pos (by rw [← size_L]; exact h)]
      rfl
    · have hm : mn (mx n 0) (s.size : Int) = (n.toNat : Int) := by unfold mn mx; rw [if_neg hn]; split <;> omega
      rw [hm]
      obtain ⟨r, hr, hL⟩ := refHead_loop s hs n.toNat k (by omega) (by omega)
      refine ⟨r, hr, ?_⟩
      rw [hL, if_pos (by omega), if_neg (by rw [← size_L]; exact h), if_neg hn]
theorem GlyphFolds : ∀ (a0 : ByteArray) (a1 : Int), a0.size ≤ 140737488351232 → (Lit.int .i64 a1).wf = true → ∃ k, wharflaw01_GlyphFolds.f k a0 a1 = some true := by
  intro s n hs _
  refine ⟨20000, ?_⟩
  generalize hK : (20000 : Nat) = K
  unfold wharflaw01_GlyphFolds.f
  rw [live K (by omega)]
  split
  · rfl
  rename_i hz
  obtain ⟨a, ha, hLa⟩ := Fold_eq s hs
  obtain ⟨b, hb, hLb⟩ := refFold_eq s hs
  obtain ⟨c, hc, hLc⟩ := Trim_eq s hs K (by omega)
  obtain ⟨d, hd, hLd⟩ := refTrim_front s.size s K rfl hs (by omega)
  obtain ⟨e, he, hLe⟩ := Head_eq s hs n K (by omega)
  obtain ⟨g, hg, hLg⟩ := refHead_eq s hs n K (by omega)
  rw [ha, hb, hc, show wharfref01_Trim.f K s = some d from hd, he, hg]
  simp only [Option.bind_some]
  rw [toList_L, toList_L, toList_L, toList_L, toList_L, toList_L, hLa, hLb, hLc, hLd, hLe, hLg, if_pos rfl, if_pos rfl, if_pos rfl]
end Go.Proofs.Ytaplfbnjoifggaa.Pure
