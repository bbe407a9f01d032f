-- written by hp.py for this claim, out of the kit's printer and texts of my own
import Derived.Test.YtaaoaikfkgbfhaaHx0
import Derived.Test.YtaaoaikfkgbfhaaHx20001
import Derived.Handy
namespace Go.Proofs.Ytaaoaikfkgbfhaa.H
open Go.RowKit Go.Proofs.YtaaoaikfkgbfhaaW.PrintWords Go.Proofs.YtaaoaikfkgbfhaaW.PrintLast Go.Proofs.YtaaoaikfkgbfhaaW.PrintMore
attribute [local go_sem] max2_int min2_int max_two min_two max_three min_three max_four min_four   -- for this text's walks alone
set_option linter.unusedVariables false
set_option linter.unusedSimpArgs false

def foldByte (c : Int) : Int := if (c - 65) % 256 < 26 then Go.bits .or .u8 c 32 else c
def glyph_Fold.f (s : ByteArray) : Option ByteArray := if s.size ≤ 9223372036854775807 then some (strOfNums ((bytesOf s).map foldByte)) else none
set_option maxHeartbeats 800000 in
theorem glyph_Fold.calls (s : ByteArray) (r : ByteArray) (w : World) (h : glyph_Fold.f s = some r) :
    Calls Try.prog 31 #[.string s] w fun e w' => e = .returned (.string r) ∧ Below w.heap.size w w' := by
  unfold glyph_Fold.f at h
  by_cases hm : s.size ≤ 9223372036854775807
  · rw [if_pos hm] at h
    obtain rfl := Option.some.inj h
    have kc := fun (W : World) => Lib.run_convert_string_bytes (P := Try.prog) W 9 38 5 s Try.underlying9 Try.underlying38 Try.underlying5
    have HB0 := Aside0.mk (bytesWorld_below' w s)
    have HA0 := Aside0.mk (BytesAt.of w s)
    have HL0 := Aside0.mk (bytesOf_length s)
    clear h
    go_enter Try.func31, Try.ntmps31
    go_wp2
    clear kc
    generalize grownCap w s.size 0 5 = N at *
    generalize Lib.bytesWorld w 5 s = W0 at *
    go_loopw [4, 5, 10] (fun _ _ v10 wr => ∃ k : Nat, k ≤ s.size ∧ v10 = .int .i64 k ∧ Aside0 (BytesAt wr w.heap.size N (foldUp foldByte (bytesOf s) k)) ∧ Aside0 (Below w.heap.size w wr)) (fun _ _ v10 _ => s.size - (intOf v10).toNat)
    case atStart => exact ⟨0, Nat.zero_le _, rfl, by simpa [foldUp] using HA0, HB0⟩
    case round =>
      obtain ⟨k, hk, rfl, HA, HB⟩ := hrel
      clear HA0 HB0
      by_cases hlt : k < s.size
      · have HX := Aside0.mk (foldUp_set foldByte (bytesOf s) k (by rw [HL0.out]; exact hlt))
        have HY := Aside0.mk (foldUp_same foldByte (bytesOf s) k (by rw [HL0.out]; exact hlt))
        have hcell := HA.out.cell k (by rw [foldUp_length, HL0.out]; exact hlt)
        rw [foldUp_at _ _ _ (by rw [HL0.out]; exact hlt)] at hcell
        have hfz := HA.out.frozen k (by rw [foldUp_length, HL0.out]; exact hlt)
        have hr := bytesOf_rd s k
        generalize (bytesOf s).getD k 0 = c at hcell HX HY hr
        obtain ⟨hr0, hr1⟩ := hr
        by_cases hc : (c - 65) % 256 < 26
        · have hf : foldByte c = Go.bits .or .u8 c 32 := by unfold foldByte; rw [if_pos hc]
          rw [hf] at HX HY
          have d1 : decide ((c - 65) % 256 < 26) = true := decide_eq_true hc
          clear hf hc
          go_wp2
          go_roundw
          case rel => exact ⟨k + 1, by omega, by go_num, ⟨HX.out ▸ HA.out.set k (by rw [foldUp_length, HL0.out]; exact hlt) _⟩, ⟨HB.out.setCell (Nat.le_refl _) _⟩⟩
          case measure => simp [intOf]; omega
        · have d1 : decide ((c - 65) % 256 < 26) = false := decide_eq_false hc
          have HZ := Aside0.mk (HY.out (by unfold foldByte; rw [if_neg hc]))
          clear hc
          go_wp2
          go_roundw
          case rel => exact ⟨k + 1, by omega, by go_num, ⟨HZ.out ▸ HA.out⟩, HB⟩
          case measure => simp [intOf]; omega
      · have hke : k = s.size := by omega
        have HE := Aside0.mk (show foldUp foldByte (bytesOf s) k = (bytesOf s).map foldByte by unfold foldUp; rw [List.take_of_length_le (by rw [HL0.out]; omega), List.drop_of_length_le (by rw [HL0.out]; omega), List.append_nil])
        rw [HE.out] at HA
        have kv := HA.out.conv N
        rw [List.length_map, HL0.out] at kv
        go_wp2
        go_ret
        exact ⟨rfl, HB.out⟩
  · rw [if_neg hm] at h
    cases h

end Go.Proofs.Ytaaoaikfkgbfhaa.H
