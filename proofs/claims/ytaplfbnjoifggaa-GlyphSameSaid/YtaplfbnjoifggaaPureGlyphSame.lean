import Derived.Test.YtaplfbnjoifggaaHx8
import Derived.Test.YtaplfbnjoifggaaGood
import Derived.Test.YtaplfbnjoifggaaGlyphLive
import Derived.Test.YtaplfbnjoifggaaFolds
namespace Go.Proofs.Ytaplfbnjoifggaa.Pure
open Go.RowKit Go.Proofs.Ytaplfbnjoifggaa.H Go.Proofs.YtaplfbnjoifggaaW.PrintWords Go.Proofs.YtaplfbnjoifggaaW.PrintLast Go.Proofs.YtaplfbnjoifggaaW.PrintMore Go.Proofs.Ytaplfbnjoifggaa.Utf Go.Proofs.Ytaplfbnjoifggaa.Bytes

theorem foldS_L (s : ByteArray) : L (foldS s) = (L s).map foldU := by
  unfold foldS
  rw [L_nums, bytesOf, List.map_map, List.map_map]
  exact List.map_congr_left fun u _ => foldByte_u u
theorem foldU_twice (u : UInt8) : foldU (foldU u) = foldU u := by
  have hu := u.toNat_lt
  unfold foldU
  by_cases h : 65 ≤ u.toNat ∧ u.toNat ≤ 90
  · rw [if_pos h, toNat_of _ (by omega), if_neg (by omega)]
  · rw [if_neg h, if_neg h]
theorem flip_all : ∀ n : Nat, n < 256 → (97 ≤ foldByte (n : Int) → foldByte (n : Int) ≤ 122 → 0 ≤ Go.bits .xor .u8 (n : Int) 32 ∧ Go.bits .xor .u8 (n : Int) 32 < 256 ∧ foldByte (Go.bits .xor .u8 (n : Int) 32) = foldByte (n : Int)) := by decide +kernel
theorem GlyphSame : ∀ (a0 : ByteArray) (a1 : Int), a0.size ≤ 140737488351232 → (Lit.int .i64 a1).wf = true → ∃ k, wharflaw01_GlyphSame.f k a0 a1 = some true := by
  intro s at_ hs _
  refine ⟨40, ?_⟩
  unfold wharflaw01_GlyphSame.f
  rw [live 40 (by omega), Option.bind_some]
  split
  · rfl
  rw [if_pos]
  have hz : (foldS s).size = s.size := by rw [size_L, foldS_L, List.length_map, ← size_L]
  refine ⟨hz, ?_, ?_⟩
  · apply L_inj
    rw [foldS_L, foldS_L, List.map_map]
    exact List.map_congr_left fun u _ => foldU_twice u
  · intro h0 h1 h2 h3
    obtain ⟨n, rfl⟩ : ∃ n : Nat, at_ = (n : Int) := ⟨at_.toNat, by omega⟩
    rw [Int.toNat_natCast]
    have hn : n < (L s).length := by rw [← size_L]; omega
    have hn2 : n < (L (foldS s)).length := by rw [← size_L, hz]; omega
    rw [bt_get _ _ hn2] at h2 h3
    have hg : (L (foldS s))[n] = foldU (L s)[n] := by
      have : (L (foldS s))[n]? = some (foldU (L s)[n]) := by rw [foldS_L, List.getElem?_map, List.getElem?_eq_getElem hn]; rfl
      rw [List.getElem?_eq_getElem hn2] at this
      exact Option.some.inj this
    rw [hg] at h2 h3
    have hu := ((L s)[n]).toNat_lt
    have hfb : foldByte (((L s)[n]).toNat : Int) = ((foldU (L s)[n]).toNat : Int) := by
      rw [fold_all _ (by omega)]
      unfold foldU
      split
      · rw [toNat_of _ (by omega)]
      · rfl
    have hfl := flip_all _ hu (by rw [hfb]; exact h2) (by rw [hfb]; exact h3)
    have hbn : (bytesOf s).getD n 0 = (((L s)[n]).toNat : Int) := by
      rw [List.getD_eq_getElem?_getD, bytesOf, List.getElem?_map, List.getElem?_eq_getElem hn]
      rfl
    unfold foldS flipS
    rw [hbn]
    have hb2 : bytesOf (strOfNums ((bytesOf s).set n (Go.bits .xor .u8 (((L s)[n]).toNat : Int) 32))) = (bytesOf s).set n (Go.bits .xor .u8 (((L s)[n]).toNat : Int) 32) := by
      have hr : ∀ x ∈ (bytesOf s).set n (Go.bits .xor .u8 (((L s)[n]).toNat : Int) 32), 0 ≤ x ∧ x < 256 := by
        intro x hx
        rcases List.mem_or_eq_of_mem_set hx with hx | hx
        · obtain ⟨u, _, rfl⟩ := List.mem_map.mp hx
          have := u.toNat_lt
          omega
        · rw [hx]
          exact ⟨hfl.1, hfl.2.1⟩
      generalize (bytesOf s).set n (Go.bits .xor .u8 (((L s)[n]).toNat : Int) 32) = xs at hr
      show (L (strOfNums xs)).map (fun b => (b.toNat : Int)) = xs
      rw [L_nums, List.map_map]
      conv => rhs; rw [← List.map_id xs]
      refine List.map_congr_left fun x hx => ?_
      exact toNat_ofNat x (hr x hx).1 (hr x hx).2
    rw [hb2, List.map_set, hfl.2.2]
    congr 1
    have hm : n < ((bytesOf s).map foldByte).length := by rw [List.length_map, bytesOf_length]; omega
    have he : ((bytesOf s).map foldByte)[n] = foldByte (((L s)[n]).toNat : Int) := by
      have : ((bytesOf s).map foldByte)[n]? = some (foldByte (((L s)[n]).toNat : Int)) := by rw [List.getElem?_map, bytesOf, List.getElem?_map, List.getElem?_eq_getElem hn]; rfl
      rw [List.getElem?_eq_getElem hm] at this
      exact Option.some.inj this
    rw [← he, List.set_getElem_self]
end Go.Proofs.Ytaplfbnjoifggaa.Pure
