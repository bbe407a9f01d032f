-- written by hp.py for this claim, out of the kit's printer and texts of my own
import Derived.Test.YtaplfbnjoifggaaHx0
import Derived.Test.YtaplfbnjoifggaaHx12
import Derived.Test.YtaplfbnjoifggaaHx21
import Derived.Test.YtaplfbnjoifggaaHx20001
import Derived.Handy
namespace Go.Proofs.Ytaplfbnjoifggaa.H
open Go.RowKit Go.Proofs.YtaplfbnjoifggaaW.PrintWords Go.Proofs.YtaplfbnjoifggaaW.PrintLast Go.Proofs.YtaplfbnjoifggaaW.PrintMore
attribute [local go_sem] max2_int min2_int max_two min_two max_three min_three max_four min_four   -- for this text's walks alone
set_option linter.unusedVariables false
set_option linter.unusedSimpArgs false

def foldS (s : ByteArray) : ByteArray := strOfNums ((bytesOf s).map foldByte)
def flipS (s : ByteArray) (n : Nat) : ByteArray := strOfNums ((bytesOf s).set n (Go.bits .xor .u8 ((bytesOf s).getD n 0) 32))
/-- what the law answers where it is true (else none) -/
def wharflaw01_GlyphSame.f (k : Nat) (s : ByteArray) (at_ : Int) : Option Bool :=
  (wharflaw01_live.f k).bind fun t =>
    if (s.size : Int) > 5000 then some t
    else if (foldS s).size = s.size ∧ foldS (foldS s) = foldS s ∧ (0 ≤ at_ → at_ < s.size → 97 ≤ bt (foldS s) at_ → bt (foldS s) at_ ≤ 122 → foldS (flipS s at_.toNat) = foldS s) then some t else none
theorem fold_f (s : ByteArray) (h : s.size ≤ 5000) : glyph_Fold.f s = some (foldS s) := by
  unfold glyph_Fold.f foldS
  rw [if_pos (by omega)]
theorem flipS_size (s : ByteArray) (n : Nat) : (flipS s n).size = s.size := by
  unfold flipS
  rw [strOfNums_size, List.length_set, bytesOf_length]
set_option maxHeartbeats 1000000 in
theorem wharflaw01_GlyphSame.calls (k : Nat) (s : ByteArray) (at_ : Int) (r : Bool) (w : World) (h : wharflaw01_GlyphSame.f k s at_ = some r) :
    Calls Try.prog 8 #[.string s, .int .i64 at_] w fun e w' => e = .returned (.bool r) ∧ Below w.heap.size w w' := by
  unfold wharflaw01_GlyphSame.f at h
  obtain ⟨t, ht, h⟩ := Option.bind_eq_some_iff.mp h
  have kl := fun W => wharflaw01_live.calls k t W ht
  clear ht
  by_cases h0 : (s.size : Int) > 5000
  · rw [if_pos h0] at h
    obtain rfl := Option.some.inj h
    have d0 : decide ((5000 : Int) < (s.size : Int)) = true := decide_eq_true h0
    have d0' : decide (5000 < s.size) = true := decide_eq_true (by omega)
    clear h0 h
    go_enter Try.func8, Try.ntmps8
    go_wp2_with (go_at_call 12; refine (kl _).mono ?_; rintro e w1 ⟨rfl, hb1⟩)
    go_ret
    exact ⟨rfl, hb1⟩
  · rw [if_neg h0] at h
    have d0 : decide ((5000 : Int) < (s.size : Int)) = false := decide_eq_false h0
    have d0' : decide (5000 < s.size) = false := decide_eq_false (by omega)
    split at h
    case isFalse => cases h
    rename_i hall
    obtain rfl := Option.some.inj h
    obtain ⟨hsz, hff, hset⟩ := hall
    have kf := fun W => glyph_Fold.calls s (foldS s) W (fold_f s (by omega))
    have kg := fun W => glyph_Fold.calls (foldS s) (foldS s) W (by rw [fold_f _ (by omega), hff])
    have kx := fun n W => glyph_Fold.calls (flipS s n) (foldS (flipS s n)) W (fold_f _ (by rw [flipS_size]; omega))
    have hx : ∀ n, flipS s n = strOfNums ((bytesOf s).set n (Go.bits .xor .u8 ((bytesOf s).getD n 0) 32)) := fun n => rfl
    generalize foldS s = F at hsz hff hset kf kg
    have HS := Aside0.mk hsz
    have d1 : ((F.size : Int) != (s.size : Int)) = false := by rw [hsz]; simp
    have d1' : (F.size != s.size) = false := by rw [hsz]; simp
    have d1'' : (F.size == s.size) = true := by rw [hsz]; simp
    clear hsz hff h0 h
    by_cases h1 : at_ < 0
    · have d2 : decide (at_ < 0) = true := decide_eq_true h1
      clear h1 hset kx hx
      go_enter Try.func8, Try.ntmps8
      go_wp2_with (first | (go_at_call 21; (first | ((with_reducible refine (kf _).mono ?_); rintro e w1 ⟨rfl, hb1⟩) | ((with_reducible refine (kg _).mono ?_); rintro e w2 ⟨rfl, hb2⟩))) | (go_at_call 12; refine (kl _).mono ?_; rintro e w3 ⟨rfl, hb3⟩))
      go_ret
      exact ⟨rfl, below_step (below_step hb1 hb2) hb3⟩
    · obtain ⟨n, rfl⟩ : ∃ n : Nat, at_ = (n : Int) := ⟨at_.toNat, by omega⟩
      have d2 : decide ((n : Int) < 0) = false := decide_eq_false h1
      clear h1
      by_cases h2 : (n : Int) ≥ (s.size : Int)
      · have d3 : decide ((s.size : Int) ≤ (n : Int)) = true := decide_eq_true h2
        have d3' : decide (s.size ≤ n) = true := decide_eq_true (by omega)
        clear h2
        clear hset kx hx
        go_enter Try.func8, Try.ntmps8
        go_wp2_with (first | (go_at_call 21; (first | ((with_reducible refine (kf _).mono ?_); rintro e w1 ⟨rfl, hb1⟩) | ((with_reducible refine (kg _).mono ?_); rintro e w2 ⟨rfl, hb2⟩))) | (go_at_call 12; refine (kl _).mono ?_; rintro e w3 ⟨rfl, hb3⟩))
        go_ret
        exact ⟨rfl, below_step (below_step hb1 hb2) hb3⟩
      · have d3 : decide ((s.size : Int) ≤ (n : Int)) = false := decide_eq_false h2
        have d3' : decide (s.size ≤ n) = false := decide_eq_false (by omega)
        have hset := hset (by omega) (by omega)
        rw [Int.toNat_natCast] at hset
        have HB := Aside0.mk (bt_at F (n : Int))
        have hr := bt_range F (n : Int)
        have p0 : ((0 : Int) ≤ (n : Int)) = True := eq_true (by omega)
        have p1 : ((n : Int) < (F.size : Int)) = True := eq_true (by rw [HS.out]; omega)
        have p2 : (n < F.size) = True := eq_true (by rw [HS.out]; omega)
        have p3 : n < s.size := by omega
        have hbt := bt_at F (n : Int)
        rw [Int.toNat_natCast] at hbt
        generalize bt F (n : Int) = c at hset hbt hr
        clear HB h2
        by_cases h4 : c < 97
        · have d4 : decide (c < 97) = true := decide_eq_true h4
          clear h4
          clear hset kx hx
          go_enter Try.func8, Try.ntmps8
          go_wp2_with (first | (go_at_call 21; (first | ((with_reducible refine (kf _).mono ?_); rintro e w1 ⟨rfl, hb1⟩) | ((with_reducible refine (kg _).mono ?_); rintro e w2 ⟨rfl, hb2⟩))) | (go_at_call 12; refine (kl _).mono ?_; rintro e w3 ⟨rfl, hb3⟩))
          go_ret
          exact ⟨rfl, below_step (below_step hb1 hb2) hb3⟩
        · have d4 : decide (c < 97) = false := decide_eq_false h4
          by_cases h5 : 122 < c
          · have d5 : decide (122 < c) = true := decide_eq_true h5
            clear h4 h5
            clear hset kx hx
            go_enter Try.func8, Try.ntmps8
            go_wp2_with (first | (go_at_call 21; (first | ((with_reducible refine (kf _).mono ?_); rintro e w1 ⟨rfl, hb1⟩) | ((with_reducible refine (kg _).mono ?_); rintro e w2 ⟨rfl, hb2⟩))) | (go_at_call 12; refine (kl _).mono ?_; rintro e w3 ⟨rfl, hb3⟩))
            go_ret
            exact ⟨rfl, below_step (below_step hb1 hb2) hb3⟩
          · have d5 : decide (122 < c) = false := decide_eq_false h5
            have hset := hset (by omega) (by omega)
            have kx := kx n
            rw [hset] at kx
            have HX := Aside0.mk (hx n)
            clear hx h4 h5 hset
            have kc := fun (W : World) => Lib.run_convert_string_bytes (P := Try.prog) W 9 45 5 s Try.underlying9 Try.underlying45 Try.underlying5
            go_enter Try.func8, Try.ntmps8
            go_upto_region 9 with (first | (go_at_call 21; (first | ((with_reducible refine (kf _).mono ?_); rintro e w1 ⟨rfl, hb1⟩) | ((with_reducible refine (kg _).mono ?_); rintro e w2 ⟨rfl, hb2⟩))) | (go_at_call 12; refine (kl _).mono ?_; rintro e w3 ⟨rfl, hb3⟩))
            clear kc
            have HW := Aside0.mk (bytesWorld_below' w2 s)
            have HA := Aside0.mk (BytesAt.of w2 s)
            have HL := Aside0.mk (bytesOf_length s)
            have HZ := Aside0.mk (show (flipS s n).size = s.size from flipS_size s n)
            generalize grownCap w2 s.size 0 5 = N at *
            generalize Lib.bytesWorld w2 5 s = W3 at *
            have hcell := HA.out.cell n (by rw [HL.out]; exact p3)
            have hfz := HA.out.frozen n (by rw [HL.out]; exact p3)
            have HA2 := Aside0.mk (HA.out.set n (by rw [HL.out]; exact p3) (Go.bits .xor .u8 ((bytesOf s).getD n 0) 32))
            have hconv := HA2.out.conv N
            rw [List.length_set, HL.out, ← HX.out] at hconv
            have HB3 := Aside0.mk (below_step (below_step hb1 hb2) HW.out)
            have hge : w.heap.size ≤ w2.heap.size := Nat.le_trans hb1.size hb2.size
            have HG := Aside0.mk hge
            clear hb1 hb2 hge HX HA2 HA
            generalize (bytesOf s).getD n 0 = cb at *
            go_wp2_with (first | (go_at_call 21; (with_reducible refine (kx _).mono ?_); rintro e w1 ⟨rfl, hb1⟩) | (go_at_call 12; refine (kl _).mono ?_; rintro e w3 ⟨rfl, hb3⟩))
            go_ret
            exact ⟨rfl, below_step (below_step (HB3.out.setCell HG.out _) hb1) hb3⟩

end Go.Proofs.Ytaplfbnjoifggaa.H
