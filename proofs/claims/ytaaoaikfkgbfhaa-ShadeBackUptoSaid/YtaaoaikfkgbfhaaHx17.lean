-- written by hp.py for this claim, out of the kit's printer and texts of my own
import Derived.Test.YtaaoaikfkgbfhaaHx0
import Derived.Test.YtaaoaikfkgbfhaaHx23
import Derived.Test.YtaaoaikfkgbfhaaHx24
import Derived.Test.YtaaoaikfkgbfhaaShelf
import Derived.WalkKit
import Derived.BigCall
import Derived.Lib.BufferKept
import Derived.Test.YtaaoaikfkgbfhaaHx24
namespace Go.Proofs.Ytaaoaikfkgbfhaa.H
open Go.RowKit Go.Proofs.YtaaoaikfkgbfhaaW.PrintWords Go.Proofs.YtaaoaikfkgbfhaaW.PrintLast Go.Proofs.YtaaoaikfkgbfhaaW.PrintMore
attribute [local go_sem] max2_int min2_int max_two min_two max_three min_three max_four min_four   -- for this text's walks alone
set_option linter.unusedVariables false
set_option linter.unusedSimpArgs false

def toHtmlGo (s : ByteArray) (most : Int) : Nat → Nat → List UInt8 → Option ByteArray
  | 0, _, _ => none
  | k + 1, pos, acc =>
    if pos < s.size then
      (glyph_First.f (s.extract pos s.size)).bind fun b =>
        if b.2.2 = 0 then
          (if ((shadeWritten (Utf8.decode s pos).1).size : Int) > wrap64 (most - (acc.length : Int)) then some ⟨acc.toArray⟩
          else if acc.length + (shadeWritten (Utf8.decode s pos).1).size ≤ 140737488355328 then toHtmlGo s most k (pos + (Utf8.decode s pos).2) (acc ++ (shadeWritten (Utf8.decode s pos).1).data.toList)
          else none)
        else toHtmlGo s most k (pos + (Utf8.decode s pos).2) acc
    else some ⟨acc.toArray⟩
def shade_ToHtml.f (s : ByteArray) (most : Int) : Option ByteArray := toHtmlGo s most (s.size + 1) 0 []
theorem decodeWidth (s : ByteArray) (pos : Nat) (h : pos < s.size) : 1 ≤ (Utf8.decode s pos).2 := by
  by_cases ha : (s[pos]'h).toNat < 128
  · rw [decode_ascii s pos h ha]
    exact Nat.le_refl _
  · exact (decode_high s pos h (by omega)).2
theorem builderBelow {T e : TypeId} {B b : Nat} {bs : List Value} {W W' : World} (h : Lib.IsBuilderF T e B b bs W) (hb : Below W.heap.size W W') : Lib.IsBuilderF T e B b bs W' := by
  have one : ∀ p, Lib.BuilderAtF T e B b p bs W → Lib.BuilderAtF T e B b p bs W' := by
    intro p h
    have hlt := h.lt
    obtain ⟨hB, v, hv, hown, hne⟩ := h
    exact ⟨hB, v, (hb.block b hlt).trans hv, hown.kept (row := none) ⟨hb.os, hb.tape, hb.output, hb.size, fun k hk _ => hb.block k hk⟩ (Classical.em _), hne⟩
  exact h.elim (fun x => .inl (one _ x)) (fun x => .inr (one _ x))
set_option maxHeartbeats 4000000 in
set_option maxRecDepth 1000000 in
theorem shade_ToHtml.calls (s : ByteArray) (most : Int) (r : ByteArray) (w : World) (h : shade_ToHtml.f s most = some r) :
    Calls Try.prog 17 #[.string s, .int .i64 most] w fun e w' => e = .returned (.string r) ∧ Below w.heap.size w w' := by
  have H0 := Aside0.mk h
  clear h
  go_enter Try.func17, Try.ntmps17
  go_wp2
  go_loopw [] (fun wr => ∃ (pos k : Nat) (acc : List UInt8), Aside0 (toHtmlGo s most k pos acc = some r) ∧ Lib.IsBuilderF 40 5 w.heap.size w.heap.size (Lib.byteCells acc) wr ∧ wr.heap[w.heap.size + 1]? = some (.stringIter s pos) ∧ Below w.heap.size w wr) (fun wr => s.size - wr.iterPos (w.heap.size + 1))
  case atStart =>
    refine ⟨0, s.size + 1, [], H0, (Lib.IsBuilderF.of (Lib.fresh_isBuilder 40 5 w)).alloc _, ?_, ((Below.refl _ w).alloc (Nat.le_refl _) _).alloc (by simp) _⟩
    have := World.iter_heap (w.alloc (.cells #[.pointer none, .slice none 0 0] 40)) s 0
    simpa using this
  case round =>
    obtain ⟨pos, k, acc, HG, hI, hit, hbw⟩ := hrel
    clear H0
    have hsz : w.heap.size + 1 < wr.heap.size := (Array.getElem?_eq_some_iff.1 hit).1
    obtain ⟨k, rfl⟩ : ∃ m, k = m + 1 := by
      cases k with
      | zero => exact absurd HG.out (by simp [toHtmlGo])
      | succ m => exact ⟨m, rfl⟩
    have H := HG.out
    clear HG
    simp only [toHtmlGo] at H
    by_cases hp : pos < s.size
    · rw [if_pos hp] at H
      obtain ⟨⟨b1, b2, b3⟩, HF, H⟩ := Option.bind_eq_some_iff.mp H
      have hnx : ∀ ty, (Instr.next (.pointer (some ⟨w.heap.size + 1, 0, none⟩)) true ty).run Try.prog wr = _ := fun ty => Lib.run_next_any_at wr (w.heap.size + 1) s pos ty hit hp
      have hwd := decodeWidth s pos hp
      have hI2 := hI.iterAt hit (pos + (Utf8.decode s pos).2)
      have hit2 := Lib.iterAt_heap wr (w.heap.size + 1) s pos (pos + (Utf8.decode s pos).2) hit
      have hbw2 := Lib.below_iterAt hbw (k := w.heap.size + 1) (by omega) s (pos + (Utf8.decode s pos).2)
      have hsz2 : (wr.iterAt (w.heap.size + 1) s (pos + (Utf8.decode s pos).2)).heap.size = wr.heap.size := Lib.iterAt_size _ _ _ _
      go_wp2_with (go_at_call 23; refine (glyph_First.calls _ b1 b2 b3 _ HF).mono ?_)
      rintro e W1 rfl bW
      rw [← hsz2] at bW
      have hI3 := builderBelow hI2 bW
      have hit3 := (bW.block (w.heap.size + 1) (by rw [hsz2]; exact hsz)).trans hit2
      have hbw3 := below_step hbw2 bW
      have hsz3 : w.heap.size + 1 < W1.heap.size := (Array.getElem?_eq_some_iff.1 hit3).1
      clear bW hI2 hit2 hbw2 hI hbw
      by_cases c : b3 = 0
      · rw [if_pos c] at H
        have cb : (b3 != 0) = false := bne_eq_false_iff_eq.mpr c
        clear c
        go_wp2_with (go_at_call 24; refine (shade_written.calls ((Utf8.decode s pos).1 : Int) _ _ rfl).mono ?_)
        rintro e W2' ⟨rfl, ⟨nd, rfl⟩⟩
        have bW := pw_below_drewN (Below.refl W1.heap.size W1) nd
        have hI4 := builderBelow hI3 bW
        have hit4 := (bW.block (w.heap.size + 1) hsz3).trans hit3
        have hbw4 := below_step hbw3 bW
        generalize W1.drewN nd = W2 at *
        have hsz4 : w.heap.size + 1 < W2.heap.size := (Array.getElem?_eq_some_iff.1 hit4).1
        clear bW hI3 hit3 hbw3 hsz3
        generalize hwr : shadeWritten ((Utf8.decode s pos).1 : Int) = x at *
        clear hwr
        by_cases c2 : (x.size : Int) > wrap64 (most - (acc.length : Int))
        · rw [if_pos c2] at H
          have d2 : decide (wrap64 (most - (acc.length : Int)) < (x.size : Int)) = true := decide_eq_true c2
          clear c2
          obtain rfl := Option.some.inj H
          go_wp2_with (go_at_call 25; refine (Try.Builder_Len_f w.heap.size w.heap.size _ _ hI4).mono ?_)
          first | rintro e W3 rfl rfl | rintro e W3 ⟨rfl, rfl⟩
          rw [Lib.byteCells_length]
          go_wp2_with (go_at_call 27; refine (Try.Builder_String_any_k w.heap.size w.heap.size acc _ hI4 (by omega)).mono ?_)
          first | rintro e W3 rfl _ b1 _ | rintro e W3 ⟨rfl, _, b1, _⟩
          go_wp2
          go_ret
          exact ⟨rfl, hbw4.trans b1⟩
        · rw [if_neg c2] at H
          have d2 : decide (wrap64 (most - (acc.length : Int)) < (x.size : Int)) = false := decide_eq_false c2
          clear c2
          by_cases c3 : acc.length + x.size ≤ 140737488355328
          · rw [if_pos c3] at H
            have H' := Aside0.mk H
            clear H
            go_wp2_with (go_at_call 25; refine (Try.Builder_Len_f w.heap.size w.heap.size _ _ hI4).mono ?_)
            first | rintro e W3 rfl rfl | rintro e W3 ⟨rfl, rfl⟩
            rw [Lib.byteCells_length]
            go_wp2_with (go_at_call 26; refine (Try.Builder_WriteString_k w.heap.size w.heap.size _ x _ hI4 (by rw [Lib.byteCells_length]; omega) (by omega)).mono ?_)
            first | rintro e W3 rfl h1 b1 k1 | rintro e W3 ⟨rfl, h1, b1, k1⟩
            go_wp2
            go_roundw
            case rel =>
              refine ⟨pos + (Utf8.decode s pos).2, k, acc ++ x.data.toList, H', ?_, k1.iter hit4 (by omega), hbw4.trans b1⟩
              rw [Lib.byteCells_append]
              exact Or.inr h1
            case measure =>
              simp only [World.iterPos, k1.iter hit4 (by omega), hit]
              omega
          · rw [if_neg c3] at H
            exact absurd H (by simp)
      · rw [if_neg c] at H
        have cb : (b3 != 0) = true := bne_iff_ne.mpr c
        clear c
        have H' := Aside0.mk H
        clear H
        go_wp2
        go_roundw
        case rel => exact ⟨pos + (Utf8.decode s pos).2, k, acc, H', hI3, hit3, hbw3⟩
        case measure =>
          simp only [World.iterPos, hit3, hit]
          omega
    · rw [if_neg hp] at H
      obtain rfl := Option.some.inj H
      have hnx : ∀ ty, (Instr.next (.pointer (some ⟨w.heap.size + 1, 0, none⟩)) true ty).run Try.prog wr = _ := fun ty => Lib.run_next_end_at wr (w.heap.size + 1) s pos ty hit hp
      go_wp2_with (go_at_call 27; refine (Try.Builder_String_any_k w.heap.size w.heap.size acc _ hI (by omega)).mono ?_)
      first | rintro e W1 rfl _ b1 _ | rintro e W1 ⟨rfl, _, b1, _⟩
      go_wp2
      go_ret
      exact ⟨rfl, hbw.trans b1⟩

end Go.Proofs.Ytaaoaikfkgbfhaa.H
