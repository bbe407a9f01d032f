-- written by hp.py for this claim, out of the kit's printer and texts of my own
import Derived.Test.YtlcnhmigbdaajaaHx0
import Derived.Test.YtlcnhmigbdaajaaHx15
import Derived.Test.YtlcnhmigbdaajaaHx20001
import Derived.Test.YtlcnhmigbdaajaaHx20006
import Derived.Test.YtlcnhmigbdaajaaHx20007
import Derived.Test.YtlcnhmigbdaajaaHx20008
import Derived.Test.YtlcnhmigbdaajaaHx20009
import Derived.Test.YtlcnhmigbdaajaaHx20010
import Derived.Test.YtlcnhmigbdaajaaHx20009
import Derived.Test.YtlcnhmigbdaajaaHx12
import Derived.Test.YtlcnhmigbdaajaaHx15
import Derived.Lib.Hide
namespace Go.Proofs.Ytlcnhmigbdaajaa.H
open Go.RowKit Go.Proofs.YtlcnhmigbdaajaaW.PrintWords Go.Proofs.YtlcnhmigbdaajaaW.PrintLast Go.Proofs.YtlcnhmigbdaajaaW.PrintMore
attribute [local go_sem] max2_int min2_int max_two min_two max_three min_three max_four min_four   -- for this text's walks alone
set_option linter.unusedVariables false
set_option linter.unusedSimpArgs false

def wharflaw20_live.f : Option Bool := some true
abbrev liA : S58 := ⟨5, 1, ⟨#[97]⟩⟩
abbrev liB : S58 := ⟨3, 2, ⟨#[98]⟩⟩
abbrev liC : S58 := ⟨5, 3, ⟨#[99]⟩⟩
abbrev liD : S58 := ⟨9, 4, ⟨#[100]⟩⟩
theorem li1 (B g : Nat) (v : Value) (W : World) (h : TimAt B W g [] 0 v) (hB : B ≤ W.heap.size) : Calls Try.prog 10 #[.pointer (some ⟨g, 0, none⟩), .int .i64 5, .string ⟨#[97]⟩] W fun e W' => e = .returned (.tuple #[.int .i64 1, .int .i64 0]) ∧ TimIs B g W [liA] 1 W' := by
  have k := add_calls B g [] 0 v 5 ⟨#[97]⟩ W h (by decide) (by decide) hB
  rw [show alAdd [] 0 5 ⟨#[97]⟩ = (1, 0, [liA], 1) by rfl] at k
  exact k
theorem li2 (B g : Nat) (v : Value) (W : World) (h : TimAt B W g [liA] 1 v) (hB : B ≤ W.heap.size) : Calls Try.prog 10 #[.pointer (some ⟨g, 0, none⟩), .int .i64 3, .string ⟨#[98]⟩] W fun e W' => e = .returned (.tuple #[.int .i64 2, .int .i64 0]) ∧ TimIs B g W [liB, liA] 2 W' := by
  have k := add_calls B g [liA] 1 v 3 ⟨#[98]⟩ W h (by decide) (by decide) hB
  rw [show alAdd [liA] 1 3 ⟨#[98]⟩ = (2, 0, [liB, liA], 2) by rfl] at k
  exact k
theorem li3 (B g : Nat) (v : Value) (W : World) (h : TimAt B W g [liB, liA] 2 v) (hB : B ≤ W.heap.size) : Calls Try.prog 10 #[.pointer (some ⟨g, 0, none⟩), .int .i64 5, .string ⟨#[99]⟩] W fun e W' => e = .returned (.tuple #[.int .i64 3, .int .i64 0]) ∧ TimIs B g W [liB, liA, liC] 3 W' := by
  have k := add_calls B g [liB, liA] 2 v 5 ⟨#[99]⟩ W h (by decide) (by decide) hB
  rw [show alAdd [liB, liA] 2 5 ⟨#[99]⟩ = (3, 0, [liB, liA, liC], 3) by rfl] at k
  exact k
theorem li4 (B g : Nat) (v : Value) (W : World) (h : TimAt B W g [liB, liA, liC] 3 v) (hB : B ≤ W.heap.size) : Calls Try.prog 10 #[.pointer (some ⟨g, 0, none⟩), .int .i64 9, .string ⟨#[100]⟩] W fun e W' => e = .returned (.tuple #[.int .i64 4, .int .i64 0]) ∧ TimIs B g W [liB, liA, liC, liD] 4 W' := by
  have k := add_calls B g [liB, liA, liC] 3 v 9 ⟨#[100]⟩ W h (by decide) (by decide) hB
  rw [show alAdd [liB, liA, liC] 3 9 ⟨#[100]⟩ = (4, 0, [liB, liA, liC, liD], 4) by rfl] at k
  exact k
theorem li5 (B g : Nat) (v : Value) (W : World) (h : TimAt B W g [liD] 4 v) (hB : B ≤ W.heap.size) : Calls Try.prog 10 #[.pointer (some ⟨g, 0, none⟩), .int .i64 (-1), .string ⟨#[]⟩] W fun e W' => e = .returned (.tuple #[.int .i64 0, .int .i64 2]) ∧ TimIs B g W [liD] 4 W' := by
  have k := add_calls B g [liD] 4 v (-1) ⟨#[]⟩ W h (by decide) (by decide) hB
  rw [show alAdd [liD] 4 (-1) ⟨#[]⟩ = (0, 2, [liD], 4) by rfl] at k
  exact k
theorem liDue (B g : Nat) (v : Value) (W : World) (h : TimAt B W g [liB, liA, liC, liD] 4 v) (hB : B ≤ W.heap.size) : Calls Try.prog 16 #[.pointer (some ⟨g, 0, none⟩), .int .i64 5] W (TimDue B g W ([⟨#[98]⟩, ⟨#[97]⟩, ⟨#[99]⟩], [liD]) 4) := by
  have k := due_calls B g [liB, liA, liC, liD] 4 v 5 W h (by decide) hB
  rw [show alDue 5 [liB, liA, liC, liD].length [liB, liA, liC, liD] = ([⟨#[98]⟩, ⟨#[97]⟩, ⟨#[99]⟩], [liD]) by rfl] at k
  exact k
theorem liNext (B g : Nat) (v : Value) (W : World) (h : TimAt B W g [liB, liA, liC, liD] 4 v) : Calls Try.prog 18 #[.pointer (some ⟨g, 0, none⟩)] W fun e W' => e = .returned (.tuple #[.int .i64 3, .bool true]) ∧ W = W' := next_calls B g [liB, liA, liC, liD] 4 v W h
theorem liHas (B g : Nat) (v : Value) (W : World) (h : TimAt B W g [liD] 4 v) : Calls Try.prog 21 #[.pointer (some ⟨g, 0, none⟩), .string ⟨#[100]⟩] W fun e W' => e = .returned (.bool true) ∧ Below W.heap.size W W' := by
  have k := has_calls B g [liD] 4 v ⟨#[100]⟩ W h (by decide)
  rw [show [liD].any (fun x => x.f2 == ⟨#[100]⟩) = true by decide +kernel] at k
  exact k
theorem liDrop (B g : Nat) (v : Value) (W : World) (h : TimAt B W g [liD] 4 v) : Calls Try.prog 13 #[.pointer (some ⟨g, 0, none⟩), .string ⟨#[100]⟩] W fun e W' => e = .returned (.int .i64 1) ∧ TimIs B g W [] 4 W' := by
  have k := drop_calls B g [liD] 4 v ⟨#[100]⟩ W h (by decide)
  have hk : alKeep ⟨#[100]⟩ [liD] = [] := by decide +kernel
  have hd : alDropped ⟨#[100]⟩ [liD] = [] := by unfold alDropped; rw [hk]; rfl
  rw [hk, hd] at k
  exact k
theorem liTexts : wharfref20_Texts.f 10 [⟨#[98]⟩, ⟨#[97]⟩, ⟨#[99]⟩] [⟨#[98]⟩, ⟨#[97]⟩, ⟨#[99]⟩] = some true := by decide +kernel
set_option maxRecDepth 100000 in
set_option maxHeartbeats 4000000 in
theorem wharflaw20_live.calls (r : Bool) (w : World) (h : wharflaw20_live.f = some r) :
    Calls Try.prog 8 #[] w fun e w' => e = .returned (.bool r) ∧ Below w.heap.size w w' := by
  obtain rfl := Option.some.inj h
  clear h
  go_enter Try.func8, Try.ntmps8
  go_upto_region 11 with (first
    | (go_at_call 9; refine (new_calls w.heap.size _ (Nat.le_refl _)).mono ?_; rintro e w1 ⟨rfl, hT, hb⟩; have HT := Aside0.mk hT; have HB := Aside0.mk hb; clear hT hb)
    | (go_at_call 10; (first | (with_reducible refine (li1 _ _ _ _ HT.out HB.out.size).mono ?_) | (with_reducible refine (li2 _ _ _ _ HT.out HB.out.size).mono ?_) | (with_reducible refine (li3 _ _ _ _ HT.out HB.out.size).mono ?_) | (with_reducible refine (li4 _ _ _ _ HT.out HB.out.size).mono ?_)); rintro e w2 ⟨rfl, v2, hT, hK⟩; have HB2 := Aside0.mk (hK.below HB.out HB.out.size); have HT2 := Aside0.mk hT; clear HT HB hT hK; have HT := HT2; have HB := HB2; clear HT2 HB2)
    | (go_at_call 18; refine (liNext _ _ _ _ HT.out).mono ?_; rintro e w3 ⟨rfl, rfl⟩)
    | (go_at_call 16; refine (liDue _ _ _ _ HT.out HB.out.size).mono ?_; rintro e w2 ⟨u, rfl, hU, v2, hT, hK⟩; obtain ⟨AU, cU, rfl⟩ := own_slice hU; have HB2 := Aside0.mk (hK.below HB.out HB.out.size); have HT2 := Aside0.mk hT; have HU := Aside0.mk hU; clear HT HB hT hK hU; have HT := HT2; have HB := HB2; clear HT2 HB2)
    | (go_at_call 10; (with_reducible refine (li5 _ _ _ _ HT.out HB.out.size).mono ?_); rintro e w2 ⟨rfl, v2, hT, hK⟩; have HB2 := Aside0.mk (hK.below HB.out HB.out.size); have HT2 := Aside0.mk hT; have HU2 := Aside0.mk (hK.ownStr HU.out); clear HT HB HU hT hK; have HT := HT2; have HB := HB2; have HU := HU2; clear HT2 HB2 HU2))
  have hX : ∀ W1, Below w2.heap.size w2 W1 → Kd.C Kd.string W1 AU 3 [⟨#[98]⟩, ⟨#[97]⟩, ⟨#[99]⟩] ∧ 3 ≤ cU := fun W1 hb => by
    have h1 := StrRow.readsAt (pw_own_below HU.out hb)
    exact ⟨h1.2.2, h1.2.1⟩
  have HX := Aside0.mk hX
  clear hX
  have hY : ∀ W1 : World, Kd.C Kd.string (W1.alloc (.cells #[.string ⟨#[98]⟩, .string ⟨#[97]⟩, .string ⟨#[99]⟩] 9)) (some ⟨W1.heap.size, 0, none⟩) 3 [⟨#[98]⟩, ⟨#[97]⟩, ⟨#[99]⟩] := fun W1 => (StrRow.readsAt (StrRow.lit W1 [⟨#[98]⟩, ⟨#[97]⟩, ⟨#[99]⟩] (by decide))).2.2
  have HY := Aside0.mk hY
  clear hY
  have kT := wharfref20_Texts.calls 10 AU cU [⟨#[98]⟩, ⟨#[97]⟩, ⟨#[99]⟩] (some ⟨w2.heap.size, 0, none⟩) 3 [⟨#[98]⟩, ⟨#[97]⟩, ⟨#[99]⟩] true (w2.alloc (.cells #[.string ⟨#[98]⟩, .string ⟨#[97]⟩, .string ⟨#[99]⟩] 9)) (HX.out _ (below_alloc (Below.refl _ _) _)).1 (HX.out w2 (Below.refl _ _)).2 (HY.out _) (Nat.le_refl 3) liTexts
  go_wp2_with (first
    | (go_at_call 12; refine (num_calls _ _).mono ?_; rintro e w3 ⟨rfl, rfl⟩)
    | (go_at_call 15; refine kT.mono ?_; rintro e w4 ⟨rfl, ⟨nd, rfl⟩⟩; have HT2 := Aside0.mk ((HT.out.below (below_alloc (Below.refl _ _) (.cells #[.string ⟨#[98]⟩, .string ⟨#[97]⟩, .string ⟨#[99]⟩] 9))).drewN nd); have HB2 := Aside0.mk (pw_below_drewN (below_alloc HB.out (.cells #[.string ⟨#[98]⟩, .string ⟨#[97]⟩, .string ⟨#[99]⟩] 9)) nd); clear HT HB HU HX HY; have HT := HT2; have HB := HB2; clear HT2 HB2)
    | (go_at_call 20; refine (len_calls _ _ _ _ _ _ HT.out).mono ?_; rintro e w5 ⟨rfl, rfl⟩)
    | (go_at_call 21; refine (liHas _ _ _ _ HT.out).mono ?_; rintro e w6 ⟨rfl, hb6⟩; have HT2 := Aside0.mk (HT.out.below hb6); have HB2 := Aside0.mk (below_step HB.out hb6); clear HT HB hb6; have HT := HT2; have HB := HB2; clear HT2 HB2)
    | (go_at_call 13; refine (liDrop _ _ _ _ HT.out).mono ?_; rintro e w7 ⟨rfl, v7, hT, hK⟩; have HB2 := Aside0.mk (hK.below HB.out HB.out.size); clear HT HB hT hK; have HB := HB2; clear HB2))
  go_ret
  exact ⟨rfl, HB.out⟩

end Go.Proofs.Ytlcnhmigbdaajaa.H
