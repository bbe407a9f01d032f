import Derived.Test.YthncdeeakhilfaaHx6
import Derived.Test.YthncdeeakhilfaaGood
import Derived.Test.YthncdeeakhilfaaFlapFrame
namespace Go.Proofs.Ythncdeeakhilfaa.Pure
open Go.RowKit Go.Proofs.Ythncdeeakhilfaa.H Go.Proofs.YthncdeeakhilfaaW.PrintWords Go.Proofs.YthncdeeakhilfaaW.PrintLast Go.Proofs.YthncdeeakhilfaaW.PrintMore Go.Proofs.Ythncdeeakhilfaa.Flap Go.Proofs.Ythncdeeakhilfaa.Bytes

theorem frameB_size (ch seq : Int) (data : ByteArray) (h : Fok ch seq) (hd : data.size ≤ 8192) : (frameB ch seq data).size = 6 + data.size := by
  obtain ⟨s1, s2, z1, z2, e, _, _⟩ := frame_list ch seq data h hd
  rw [size_L, e]
  have hsz : (L data).length = data.size := rfl
  simp [hsz]
  omega
theorem FlapOrder : ∀ (a0 : S37) (a1 : Int) (a2 : ByteArray), good37 a0 → (Lit.int .i64 a1).wf = true → a2.size ≤ 140737488351232 → ∃ k, wharflaw12_FlapOrder.f k a0.f0 a0.f1 a0.f2 a1 a2 = some true := by
  intro f skip more hg _ hm
  obtain ⟨ch, seq, data⟩ := f
  have hds : data.size ≤ 140737488351232 := hg.2.2
  refine ⟨100, ?_⟩
  unfold wharflaw12_FlapOrder.f
  dsimp only
  rw [wrap_id _ (by omega) (by omega)]
  by_cases c1 : (data.size : Int) + (more.size : Int) > 30000
  · rw [if_pos c1]
  rw [if_neg c1]
  by_cases c2 : skip < 0
  · rw [if_pos c2]
  rw [if_neg c2]
  by_cases c3 : 65535 < skip
  · rw [if_pos c3]
  rw [if_neg c3]
  by_cases c4 : seq < 0
  · rw [if_pos c4]
  rw [if_neg c4]
  by_cases c5 : 65535 < seq
  · rw [if_pos c5]
  rw [if_neg c5, Put_eq _ _ _ 100 (by omega), Option.bind_some, Put_eq _ _ _ 100 (by omega), Option.bind_some]
  unfold putAns
  by_cases hf : Fok ch seq
  · have hf2 : Fok ch ((seq + skip) % 65536) := ⟨hf.1, hf.2.1, by omega, by omega⟩
    rw [if_pos hf, if_pos hf2]
    by_cases hd : (data.size : Int) > 8192
    · rw [if_pos hd, if_pos hd]
      dsimp only
      rw [if_pos ⟨by omega, by omega, by omega, by omega, by decide, by decide, by omega⟩, if_neg (by omega)]
    · rw [if_neg hd, if_neg hd]
      have z1 := frameB_size ch seq data hf (by omega)
      have z2 := frameB_size ch ((seq + skip) % 65536) data hf2 (by omega)
      have p1 := frame_parse ch seq data hf (by omega) (-1) []
      rw [if_neg (by omega), List.append_nil] at p1
      have F1 : flapRun (L (frameB ch seq data)) flapNew [] = (fresh (flapNext seq), [⟨ch, seq, data⟩]) := run_frame (-1) _ [] flapNew [] 0 ⟨ch, seq, data⟩ (Part.nil (-1)) p1
      dsimp only
      rw [if_pos ⟨by omega, by omega, by omega, by omega, by omega, by omega, by omega⟩, if_pos (by omega), F1]
      dsimp only
      unfold flapOrderEnd
      rw [if_pos (show (fresh (flapNext seq), [(⟨ch, seq, data⟩ : Fr)]).2.length = 1 from rfl)]
      have hn : 0 ≤ flapNext seq := next_ge seq
      have p2 := frame_parse ch ((seq + skip) % 65536) data hf2 (by omega) (flapNext seq) []
      rw [List.append_nil] at p2
      have hnx : flapNext seq = if seq = 65535 then 0 else seq + 1 := by
        unfold flapNext
        split <;> split <;> omega
      by_cases s1 : skip = 1
      · have he : (seq + skip) % 65536 = flapNext seq := by
          rw [hnx]
          split <;> omega
        rw [if_pos s1]
        rw [if_neg (fun h => h.2 he)] at p2
        have F2 := run_frame (flapNext seq) (L (frameB ch ((seq + skip) % 65536) data)) [] (fresh (flapNext seq)) [] 0 ⟨ch, (seq + skip) % 65536, data⟩ (Part.nil _) p2
        rw [F2]
        rfl
      · have he : (seq + skip) % 65536 ≠ flapNext seq := by
          rw [hnx]
          split <;> omega
        rw [if_neg s1]
        rw [if_pos ⟨hn, he⟩] at p2
        obtain ⟨s, F2, hs⟩ := run_error (flapNext seq) (L (frameB ch ((seq + skip) % 65536) data)) [] (fresh (flapNext seq)) [] 121 (by decide) (Part.nil _) p2
        rw [F2]
        dsimp only
        rw [flapRun_err _ s [] (by rw [hs]; decide)]
        dsimp only
        unfold flapLeft
        rw [hs, if_pos ⟨rfl, rfl, rfl, if_neg (by decide)⟩]
  · have hf2 : ¬ Fok ch ((seq + skip) % 65536) := fun h => hf ⟨h.1, h.2.1, by omega, by omega⟩
    rw [if_neg hf, if_neg hf2]
    dsimp only
    rw [if_pos ⟨by omega, by omega, by omega, by omega, by decide, by decide, by omega⟩, if_neg (by omega)]
end Go.Proofs.Ythncdeeakhilfaa.Pure
