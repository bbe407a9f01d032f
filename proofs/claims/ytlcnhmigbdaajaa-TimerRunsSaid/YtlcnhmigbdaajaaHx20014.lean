-- written by hp.py for this claim, out of the kit's printer and texts of my own
import Derived.Test.YtlcnhmigbdaajaaHx0
import Derived.Test.YtlcnhmigbdaajaaHx20001
import Derived.Test.YtlcnhmigbdaajaaHx20011
import Derived.Test.YtlcnhmigbdaajaaHx20012
import Derived.Test.YtlcnhmigbdaajaaHx20013
import Derived.Test.YtlcnhmigbdaajaaHx20013
import Derived.Lib.Hide
import Derived.Deep.LoopGhost
import Derived.Deep.DeepCutAuto
import Derived.Deep.RegionHeld3
namespace Go.Proofs.Ytlcnhmigbdaajaa.H
open Go.RowKit Go.Proofs.YtlcnhmigbdaajaaW.PrintWords Go.Proofs.YtlcnhmigbdaajaaW.PrintLast Go.Proofs.YtlcnhmigbdaajaaW.PrintMore
attribute [local go_sem] max2_int min2_int max_two min_two max_three min_three max_four min_four   -- for this text's walks alone
set_option linter.unusedVariables false
set_option linter.unusedSimpArgs false

theorem one_append {ops : Array Oper} {o : Oper} {a : Act} {W0 W : World} {Kc : Act → World → Prop} {Q : Exit → Act → World → Prop} (hw : Region.wanted o (yielded ops a.tmps) = true) (s x : Operand)
    (ho : o.op = .call { callee := .builtin .append, args := #[s, x], argTypes := #[28, 28] }) {v : Value} {A : Option Addr} {m c : Nat} (hs : a.eval s = v) (hx : a.eval x = .slice A m c) (xs ys : List S58)
    (HO : RK.R 60 W W0.heap.size (fun _ => True) v xs) (HC : RK.C W A m ys) (HB : Below W0.heap.size W0 W) (hl : (xs.length + m) * 32 ≤ 140737488355328)
    (h : ∀ v1 w1, RK.R 60 w1 W0.heap.size (fun _ => True) v1 (xs ++ ys) → Below W0.heap.size W0 w1 → W.grownBy w1 v.ownBlock → (∃ A c q, v1 = .slice A q c) → Kc (a.put o.dst v1) w1) :
    if Region.wanted o (yielded ops a.tmps) = true then Oper.wp Try.prog o a W Kc Q else Kc (a.put o.dst undef) W :=
  Kd.R_append_rows_step RK (Rr := RK.K W) (w0 := W0) W0.heap.size hw s x 28 60 (.agg #[.int .i64 0, .int .i64 0, .string ⟨#[]⟩]) 32 ho underOnes infoOne rfl (by decide) (by decide) v xs ys A m c (fun _ => True) (fun _ => False) hs hx HO HC timKM (fun _ hk => hk.elim) (fun _ _ => trivial) HB HB.size hl
    (fun v1 w1 h1 h2 h3 _ => h v1 w1 h1 h2 h3 (by obtain ⟨A, c, e⟩ := Kd.R_slice h1; exact ⟨A, c, _, e⟩))
theorem one_lit {ops : Array Oper} {o : Oper} {a : Act} {W0 W : World} {Kc : Act → World → Prop} {Q : Exit → Act → World → Prop} (hw : Region.wanted o (yielded ops a.tmps) = true) {N : Tmp} (hd : o.dst = some N) (xs : List S58) (n : Nat) (hn : xs.length = n) (hm : n ≤ 1000000)
    (hrun : (execOp a.eval o).run Try.prog W = .ok (.value (.slice (some ⟨W.heap.size, 0, none⟩) n n)) (W.alloc (.cells (alCells xs).toArray 60))) (HB : Below W0.heap.size W0 W)
    (h : ∀ b w1, RK.R 60 w1 W0.heap.size (fun k => k = b) (.slice (some ⟨b, 0, none⟩) n n) xs → Below W0.heap.size W0 w1 → Below W.heap.size W w1 → W.heap.size ≤ b → Kc (a.put o.dst (.slice (some ⟨b, 0, none⟩) n n)) w1) :
    if Region.wanted o (yielded ops a.tmps) = true then Oper.wp Try.prog o a W Kc Q else Kc (a.put o.dst undef) W := by
  subst hn
  refine event_step hw hrun (h W.heap.size _ ⟨fun k hk => (Option.some.inj hk).symm, alCells xs, ?_, ?_⟩ (HB.alloc HB.size _) (below_alloc (Below.refl _ _) _) (Nat.le_refl _))
  · have := World.ownsRow_lit (base := W0.heap.size) (e := 60) (size := 3) W (alCells xs).toArray xs.length HB.size (by unfold maxLen; omega) (by simpa using alCells_length xs)
    exact this
  · refine ⟨alCells_length xs, fun j x hx => ?_⟩
    have e : ((alCells xs).drop (j * 3)).take 3 = [.int .i64 x.f0, .int .i64 x.f1, .string x.f2] := by
      have h0 := alCells_get xs j x 0 hx (by omega)
      have h1 := alCells_get xs j x 1 hx (by omega)
      have h2 := alCells_get xs j x 2 hx (by omega)
      apply List.ext_getElem?
      intro i
      rw [List.getElem?_take, List.getElem?_drop]
      match i with
      | 0 => rw [if_pos (by omega)]; exact h0
      | 1 => rw [if_pos (by omega)]; exact h1
      | 2 => rw [if_pos (by omega)]; exact h2
      | i + 3 => rw [if_neg (by omega)]; rfl
    show RK.M _ _ _ x (((alCells xs).drop (j * 3)).take 3)
    rw [e]
    exact k58_mkM _ _ _ x
theorem oneLit (W : World) (x : S58) : RK.C (W.alloc (.cells #[.int .i64 x.f0, .int .i64 x.f1, .string x.f2] 60)) (some ⟨W.heap.size, 0, none⟩) 1 [x] := by
  have ho := World.ownsRow_lit (base := 0) (e := 60) (size := 3) W #[.int .i64 x.f0, .int .i64 x.f1, .string x.f2] 1 (Nat.zero_le _) (by unfold maxLen; omega) rfl
  have hR : RK.R 60 (W.alloc (.cells #[.int .i64 x.f0, .int .i64 x.f1, .string x.f2] 60)) 0 (fun _ => True) (.slice (some ⟨W.heap.size, 0, none⟩) 1 1) [x] :=
    ⟨fun _ _ => trivial, _, ho, (Reps.none _ _).snoc (k58_mkM _ _ _ x) rfl⟩
  exact (Kd.R_reads' hR).2.2
def refAdd.T9 : Bool × List (List Nat × List Nat) := (true, [([], []), ([], []), ([], []), ([2], [2]), ([3], [3]), ([4], [4]), ([], []), ([5, 6], [5, 6]), ([1, 7], [1, 7]), ([], []), ([], []), ([10], [10]), ([11], [11]), ([12], [12]), ([], []), ([9, 13, 14], [9, 13, 14]), ([15], [15]), ([8, 16, 8], [8, 16]), ([], []), ([18], [18]), ([19], [19]), ([20], [20]), ([], []), ([21, 22], [21, 22]), ([17, 23, 17], [17, 23]), ([0, 0, 1, 2, 3, 4, 5, 6, 7, 8, 9, 10, 11, 12, 13, 14, 15, 16, 17, 18, 19, 20, 21, 22, 23, 24], [0]), ([25, 0, 1, 2, 3, 4, 5, 6, 7, 8, 9, 10, 11, 12, 13, 14, 15, 16, 17, 18, 19, 20, 21, 22, 23, 24], [25]), ([26, 24, 24, 0, 1, 2, 3, 4, 5, 6, 7, 8, 9, 10, 11, 12, 13, 14, 15, 16, 17, 18, 19, 20, 21, 22, 23, 24], [24, 26])])
def refAdd.B9 : List Nat := [0, 0, 0, 4, 12, 28, 0, 124, 254, 0, 0, 1024, 3072, 7168, 0, 32256, 65024, 131070, 0, 262144, 786432, 1835008, 0, 8126464, 16777214, 33554431, 67108863, 134217727]
theorem refAdd.tab9 : rtab .any (opsOf Try.f11 9) = refAdd.T9 := by kernel_rfl
theorem refAdd.bits9 : waitsOk refAdd.T9.2 refAdd.B9 = true := by kernel_rfl
/-- the reference's Add -/
def refAdd (l : List S58) (last : Int) (at_ : Int) (key : ByteArray) : Int × Int × List S58 × Int :=
  if 256 < key.size ∨ at_ < 0 then (0, 2, l, last) else if 1000 ≤ l.length then (0, 5, l, last) else (last + 1, 0, refPut l ⟨at_, last + 1, key⟩, last + 1)
set_option maxRecDepth 100000 in
set_option maxHeartbeats 4000000 in
theorem refAdd_calls (B g : Nat) (l : List S58) (last : Int) (v : Value) (at_ : Int) (key : ByteArray) (W : World) (h : RefAt B W g l last v) (h0 : 0 ≤ last) (h1 : last ≤ 1000000000) (hB : B ≤ W.heap.size) :
    Calls Try.prog 11 #[.pointer (some ⟨g, 0, none⟩), .int .i64 at_, .string key] W fun e W' => e = .returned (.tuple #[.int .i64 (refAdd l last at_ key).1, .int .i64 (refAdd l last at_ key).2.1]) ∧ RefIs B g W (refAdd l last at_ key).2.2.1 (refAdd l last at_ key).2.2.2 W' := by
  by_cases c1 : 256 < key.size
  · have e : refAdd l last at_ key = (0, 2, l, last) := if_pos (.inl c1)
    rw [e]
    have HA := Aside0.mk h
    have d1 : decide (256 < key.size) = true := decide_eq_true c1
    clear h e
    go_enter Try.func11, Try.ntmps11
    go_wp2
    go_ret2
    exact ⟨rfl, _, HA.out, RefK.refl _ _⟩
  by_cases c2 : at_ < 0
  · have e : refAdd l last at_ key = (0, 2, l, last) := if_pos (.inr c2)
    rw [e]
    have HA := Aside0.mk h
    have d1 : decide (256 < key.size) = false := decide_eq_false c1
    have d2 : decide (at_ < 0) = true := decide_eq_true c2
    clear h e
    go_enter Try.func11, Try.ntmps11
    go_wp2
    go_ret2
    exact ⟨rfl, _, HA.out, RefK.refl _ _⟩
  obtain ⟨A, c, rfl, hc, hC⟩ := h.reads
  have q0 := h.cell
  by_cases c3 : 1000 ≤ l.length
  · have e : refAdd l last at_ key = (0, 5, l, last) := (if_neg (by omega)).trans (if_pos c3)
    rw [e]
    have HA := Aside0.mk h
    have d1 : decide (256 < key.size) = false := decide_eq_false c1
    have d2 : decide (at_ < 0) = false := decide_eq_false c2
    clear h e hC
    go_enter Try.func11, Try.ntmps11
    go_wp2
    go_ret2
    exact ⟨rfl, _, HA.out, RefK.refl _ _⟩
  · have e : refAdd l last at_ key = (last + 1, 0, refPut l ⟨at_, last + 1, key⟩, last + 1) := (if_neg (by omega)).trans (if_neg c3)
    rw [e]
    have q1 := h.cell1
    have f1 := h.free 1
    obtain ⟨h2, hk2⟩ := h.num (last + 1)
    have hB2 : B ≤ (W.setCell ⟨g, 1, none⟩ (.int .i64 (last + 1))).heap.size := by simpa [World.setCell] using hB
    have d1 : decide (256 < key.size) = false := decide_eq_false c1
    have d2 : decide (at_ < 0) = false := decide_eq_false c2
    obtain ⟨n, hn⟩ : ∃ n, l.length = n := ⟨_, rfl⟩
    have HN := Aside0.mk hn
    have HX := Aside0.mk (And.intro h2 (And.intro hk2 hB2))
    rw [hn] at q0 c3 hc
    clear h e h2 hk2 hB2 hn hC
    go_enter Try.func11, Try.ntmps11
    go_upto_block 0 with (fail)
    generalize W.setCell ⟨g, 1, none⟩ (.int .i64 (last + 1)) = W1 at *
    have q2 := HX.out.1.cell
    have q3 := HX.out.1.cell1
    have f2 := HX.out.1.free 0
    rw [HN.out] at q2
    go_cut [8] (fun q wx => q = .int .i64 (refPos at_ l n : Nat) ∧ wx = W1)
    case first =>
      go_wp2_with fail
      go_loopg [8] (n + 1) (fun gk q wr => ∃ k : Nat, k < gk ∧ k ≤ n ∧ q = .int .i64 k ∧ wr = W1 ∧ Aside0 (refPos at_ l k = refPos at_ l n))
      case atStart => exact ⟨n, by omega, Nat.le_refl _, rfl, rfl, ⟨rfl⟩⟩
      case round =>
        obtain ⟨k, hgk, hk, rfl, rfl, HH⟩ := hrel
        cases k with
        | zero =>
          have e0 : refPos at_ l n = 0 := HH.out.symm
          go_wp2_with fail
          go_meet
          case rel => exact ⟨by rw [e0], rfl⟩
        | succ k =>
          have hn0 : 0 < l.length := by have := HN.out; omega
          obtain ⟨r, c', e, hc', hx⟩ := ones_own HX.out.1.own hn0
          obtain ⟨x0, _, _⟩ := hx k (by have := HN.out; omega)
          rw [HN.out] at e
          injection e with e1 e2 e3
          subst e1 e3
          clear hx hc' hn0
          by_cases c4 : at_ < (alG l k).f0
          · have e0 : refPos at_ l k = refPos at_ l n := by have := HH.out; rw [refPos, if_pos c4] at this; exact this
            have HE := Aside0.mk e0
            have d3 : decide (at_ < (alG l k).f0) = true := decide_eq_true c4
            clear e0 c4
            go_wp2_with fail
            go_roundg (k + 1)
            case measure => omega
            case rel => exact ⟨k, by omega, by omega, rfl, rfl, HE⟩
          · have e0 : refPos at_ l n = k + 1 := by have := HH.out; rw [refPos, if_neg c4] at this; exact this.symm
            have HE := Aside0.mk e0
            have d3 : decide (at_ < (alG l k).f0) = false := decide_eq_false c4
            clear e0 c4
            go_wp2_with fail
            go_meet
            case rel => exact ⟨by rw [HE.out]; go_num, rfl⟩
    case rest =>
      obtain ⟨rfl, rfl⟩ := hcut
      have hp : refPos at_ l n ≤ n := (refPos_ok at_ l n).1
      obtain ⟨p, hpp⟩ : ∃ p, refPos at_ l n = p := ⟨_, rfl⟩
      rw [hpp] at hp ⊢
      have HP := Aside0.mk hpp
      clear hpp
      go_upto_region 9 with (fail)
      have hC1 : RK.C wc A l.length l := by
        obtain ⟨A0, c0, e, _, hC⟩ := HX.out.1.reads
        rw [HN.out] at e
        injection e with e1 e2 e3
        rw [← e1] at hC
        exact hC
      obtain ⟨hsh, hCh⟩ := onesHead hC1 (c := c) (by rw [HN.out]; exact hc) p (by rw [HN.out]; exact hp)
      obtain ⟨A', hst, hCt⟩ := onesTail hC1 (c := c) (by rw [HN.out]; exact hc) p (by rw [HN.out]; exact hp)
      rw [HN.out] at hsh hst hCt
      have HC := Aside0.mk (And.intro hCh hCt)
      have HGL : Aside0 (g < wc.heap.size) := ⟨blk_lt HX.out.1.blk⟩
      have HL1 : Aside0 ((([] : List S58).length + p) * 32 ≤ 140737488355328) := ⟨by simp only [List.length_nil]; omega⟩
      have HL2 : Aside0 ((([] ++ l.take p : List S58).length + 1) * 32 ≤ 140737488355328) := ⟨by rw [List.nil_append, List.length_take]; omega⟩
      have HL3 : Aside0 ((([] ++ l.take p ++ [(⟨at_, last + 1, key⟩ : S58)] : List S58).length + (n - p)) * 32 ≤ 140737488355328) := ⟨by rw [List.nil_append, List.length_append, List.length_take]; simp only [List.length_cons, List.length_nil]; omega⟩
      have Q2 := Aside0.mk (And.intro q2 q3)
      have F2 := Aside0.mk f2
      clear hC1 hCh hCt
      have HBc : Aside0 (Below wc.heap.size wc wc.drew) := ⟨below_drew (Below.refl _ _)⟩
      --R9
      refine start_ (n := 28) (S := fun w' => w'.cell? ⟨g, 0, none⟩ = some (.slice A n c) ∧ w'.cell? ⟨g, 1, none⟩ = some (.int .i64 (last + 1))) (ds := [27]) #[false, false, false, false, false, false, false, false, false, false, false, false, false, false, false, false, false, false, false, false, false, false, false, false, false, false, false, false] (by kernel_rfl) rfl rfl ⟨((HBc.out).cell (p := ⟨g, 0, none⟩) HGL.out).trans Q2.out.1, ((HBc.out).cell (p := ⟨g, 1, none⟩) HGL.out).trans Q2.out.2⟩ (fun hHeld => ?_)
      refine with_tabW refAdd.tab9 refAdd.bits9 (fun HT_ HW_ => ?_)
      refine pure_ (i := 0) (N := some 51) (v := ?_) (a' := ?_) #[true, false, false, false, false, false, false, false, false, false, false, false, false, false, false, false, false, false, false, false, false, false, false, false, false, false, false, false] rfl rfl (any_of HT_.out (by kernel_rfl)) (fun _ _ _ h => h) (Or.inl ⟨by rfl, ?_⟩) ?_ ?_
      rotate_left
      · intro w'
        go_simp
        with_reducible rfl
      rotate_left
      · simp only [Act.put, List.setIfInBounds_toArray, List.set_cons_zero, List.set_cons_succ, i64_w, i32_w]
        rfl
      refine pure_ (i := 2) (N := some 53) (v := ?_) (a' := ?_) #[true, false, true, false, false, false, false, false, false, false, false, false, false, false, false, false, false, false, false, false, false, false, false, false, false, false, false, false] rfl rfl (any_of HT_.out (by kernel_rfl)) (fun _ _ _ h => h) (Or.inl ⟨by rfl, ?_⟩) ?_ ?_
      rotate_left
      · intro w'
        go_simp
        with_reducible rfl
      rotate_left
      · simp only [Act.put, List.setIfInBounds_toArray, List.set_cons_zero, List.set_cons_succ, i64_w, i32_w]
        rfl
      refine pure_ (i := 3) (N := some 54) (v := ?_) (a' := ?_) #[true, false, true, true, false, false, false, false, false, false, false, false, false, false, false, false, false, false, false, false, false, false, false, false, false, false, false, false] rfl rfl (any_of HT_.out (by kernel_rfl)) (fun _ _ _ h => h) (Or.inl ⟨by rfl, ?_⟩) ?_ ?_
      rotate_left
      · intro w'
        go_simp
        with_reducible rfl
      rotate_left
      · simp only [Act.put, List.setIfInBounds_toArray, List.set_cons_zero, List.set_cons_succ, i64_w, i32_w]
        rfl
      refine pure_ (i := 4) (N := some 55) (v := ?_) (a' := ?_) #[true, false, true, true, true, false, false, false, false, false, false, false, false, false, false, false, false, false, false, false, false, false, false, false, false, false, false, false] rfl rfl (any_of HT_.out (by kernel_rfl)) (fun _ _ _ h => h) (Or.inl ⟨by rfl, ?_⟩) ?_ ?_
      rotate_left
      · intro w'
        go_simp
        with_reducible rfl
      rotate_left
      · simp only [Act.put, List.setIfInBounds_toArray, List.set_cons_zero, List.set_cons_succ, i64_w, i32_w]
        rfl
      refine pure_ (i := 6) (N := some 57) (v := ?_) (a' := ?_) #[true, false, true, true, true, false, true, false, false, false, false, false, false, false, false, false, false, false, false, false, false, false, false, false, false, false, false, false] rfl rfl (any_of HT_.out (by kernel_rfl)) (fun _ _ _ h => h) (Or.inl ⟨by rfl, ?_⟩) ?_ ?_
      rotate_left
      · intro w'
        go_simp
        with_reducible rfl
      rotate_left
      · simp only [Act.put, List.setIfInBounds_toArray, List.set_cons_zero, List.set_cons_succ, i64_w, i32_w]
        rfl
      refine pure_ (i := 9) (N := some 60) (v := ?_) (a' := ?_) #[true, false, true, true, true, false, true, false, false, true, false, false, false, false, false, false, false, false, false, false, false, false, false, false, false, false, false, false] rfl rfl (any_of HT_.out (by kernel_rfl)) (fun _ _ _ h => h) (Or.inl ⟨by rfl, ?_⟩) ?_ ?_
      rotate_left
      · intro w'
        go_simp
        with_reducible rfl
      rotate_left
      · simp only [Act.put, List.setIfInBounds_toArray, List.set_cons_zero, List.set_cons_succ, i64_w, i32_w]
        rfl
      refine pure_ (i := 10) (N := some 61) (v := ?_) (a' := ?_) #[true, false, true, true, true, false, true, false, false, true, true, false, false, false, false, false, false, false, false, false, false, false, false, false, false, false, false, false] rfl rfl (any_of HT_.out (by kernel_rfl)) (fun _ _ _ h => h) (Or.inl ⟨by rfl, ?_⟩) ?_ ?_
      rotate_left
      · intro w'
        go_simp
        with_reducible rfl
      rotate_left
      · simp only [Act.put, List.setIfInBounds_toArray, List.set_cons_zero, List.set_cons_succ, i64_w, i32_w]
        rfl
      refine pure_ (i := 11) (N := some 62) (v := ?_) (a' := ?_) #[true, false, true, true, true, false, true, false, false, true, true, true, false, false, false, false, false, false, false, false, false, false, false, false, false, false, false, false] rfl rfl (any_of HT_.out (by kernel_rfl)) (fun _ _ _ h => h) (Or.inl ⟨by rfl, ?_⟩) ?_ ?_
      rotate_left
      · intro w'
        go_simp
        with_reducible rfl
      rotate_left
      · simp only [Act.put, List.setIfInBounds_toArray, List.set_cons_zero, List.set_cons_succ, i64_w, i32_w]
        rfl
      refine pure_ (i := 12) (N := some 63) (v := ?_) (a' := ?_) #[true, false, true, true, true, false, true, false, false, true, true, true, true, false, false, false, false, false, false, false, false, false, false, false, false, false, false, false] rfl rfl (any_of HT_.out (by kernel_rfl)) (fun _ _ _ h => h) (Or.inl ⟨by rfl, ?_⟩) ?_ ?_
      rotate_left
      · intro w'
        go_simp
        with_reducible rfl
      rotate_left
      · simp only [Act.put, List.setIfInBounds_toArray, List.set_cons_zero, List.set_cons_succ, i64_w, i32_w]
        rfl
      refine pure_ (i := 14) (N := some 65) (v := ?_) (a' := ?_) #[true, false, true, true, true, false, true, false, false, true, true, true, true, false, true, false, false, false, false, false, false, false, false, false, false, false, false, false] rfl rfl (any_of HT_.out (by kernel_rfl)) (fun _ _ _ h => h) (Or.inl ⟨by rfl, ?_⟩) ?_ ?_
      rotate_left
      · intro w'
        go_simp
        with_reducible rfl
      rotate_left
      · simp only [Act.put, List.setIfInBounds_toArray, List.set_cons_zero, List.set_cons_succ, i64_w, i32_w]
        rfl
      refine pure_ (i := 18) (N := some 69) (v := ?_) (a' := ?_) #[true, false, true, true, true, false, true, false, false, true, true, true, true, false, true, false, false, false, true, false, false, false, false, false, false, false, false, false] rfl rfl (any_of HT_.out (by kernel_rfl)) (fun _ _ _ h => h) (Or.inl ⟨by rfl, ?_⟩) ?_ ?_
      rotate_left
      · intro w'
        go_simp
        with_reducible rfl
      rotate_left
      · simp only [Act.put, List.setIfInBounds_toArray, List.set_cons_zero, List.set_cons_succ, i64_w, i32_w]
        rfl
      refine pure_ (i := 19) (N := some 70) (v := ?_) (a' := ?_) #[true, false, true, true, true, false, true, false, false, true, true, true, true, false, true, false, false, false, true, true, false, false, false, false, false, false, false, false] rfl rfl (any_of HT_.out (by kernel_rfl)) (fun _ _ _ h => h) (Or.inl ⟨by rfl, ?_⟩) ?_ ?_
      rotate_left
      · intro w'
        go_simp
        with_reducible rfl
      rotate_left
      · simp only [Act.put, List.setIfInBounds_toArray, List.set_cons_zero, List.set_cons_succ, i64_w, i32_w]
        rfl
      refine pure_ (i := 20) (N := some 71) (v := ?_) (a' := ?_) #[true, false, true, true, true, false, true, false, false, true, true, true, true, false, true, false, false, false, true, true, true, false, false, false, false, false, false, false] rfl rfl (any_of HT_.out (by kernel_rfl)) (fun _ _ _ h => h) (Or.inl ⟨by rfl, ?_⟩) ?_ ?_
      rotate_left
      · intro w'
        go_simp
        with_reducible rfl
      rotate_left
      · simp only [Act.put, List.setIfInBounds_toArray, List.set_cons_zero, List.set_cons_succ, i64_w, i32_w]
        rfl
      refine pure_ (i := 22) (N := some 73) (v := ?_) (a' := ?_) #[true, false, true, true, true, false, true, false, false, true, true, true, true, false, true, false, false, false, true, true, true, false, true, false, false, false, false, false] rfl rfl (any_of HT_.out (by kernel_rfl)) (fun _ _ _ h => h) (Or.inl ⟨by rfl, ?_⟩) ?_ ?_
      rotate_left
      · intro w'
        go_simp
        with_reducible rfl
      rotate_left
      · simp only [Act.put, List.setIfInBounds_toArray, List.set_cons_zero, List.set_cons_succ, i64_w, i32_w]
        rfl
      refine take_ (i := 5) (N := some 56) (v := ?_) (a' := ?_) #[true, false, true, true, true, true, true, false, false, true, true, true, true, false, true, false, false, false, true, true, true, false, true, false, false, false, false, false] rfl rfl (take_ofW HT_.out HW_.out (by kernel_rfl)) (fun _ _ _ h => h) (Or.inl ⟨by rfl, ?_⟩) hHeld ?_ ?_
      rotate_left
      · rintro w' ⟨s0, s1⟩
        go_simp
        with_reducible rfl
      rotate_left
      · simp only [Act.put, List.setIfInBounds_toArray, List.set_cons_zero, List.set_cons_succ, i64_w, i32_w]
        rfl
      refine pure_ (i := 7) (N := some 58) (v := ?_) (a' := ?_) #[true, false, true, true, true, true, true, true, false, true, true, true, true, false, true, false, false, false, true, true, true, false, true, false, false, false, false, false] rfl rfl (any_of HT_.out (by kernel_rfl)) (fun _ _ _ h => h) (Or.inl ⟨by rfl, ?_⟩) ?_ ?_
      rotate_left
      · intro w'
        go_simp
        with_reducible rfl
      rotate_left
      · simp only [Act.put, List.setIfInBounds_toArray, List.set_cons_zero, List.set_cons_succ, i64_w, i32_w]
        rfl
      refine take_ (i := 13) (N := some 64) (v := ?_) (a' := ?_) #[true, false, true, true, true, true, true, true, false, true, true, true, true, true, true, false, false, false, true, true, true, false, true, false, false, false, false, false] rfl rfl (take_ofW HT_.out HW_.out (by kernel_rfl)) (fun _ _ _ h => h) (Or.inl ⟨by rfl, ?_⟩) hHeld ?_ ?_
      rotate_left
      · rintro w' ⟨s0, s1⟩
        go_simp
        with_reducible rfl
      rotate_left
      · simp only [Act.put, List.setIfInBounds_toArray, List.set_cons_zero, List.set_cons_succ, i64_w, i32_w]
        rfl
      refine pure_ (i := 15) (N := some 66) (v := ?_) (a' := ?_) #[true, false, true, true, true, true, true, true, false, true, true, true, true, true, true, true, false, false, true, true, true, false, true, false, false, false, false, false] rfl rfl (any_of HT_.out (by kernel_rfl)) (fun _ _ _ h => h) (Or.inl ⟨by rfl, ?_⟩) ?_ ?_
      rotate_left
      · intro w'
        go_simp
        with_reducible rfl
      rotate_left
      · simp only [Act.put, List.setIfInBounds_toArray, List.set_cons_zero, List.set_cons_succ, i64_w, i32_w]
        rfl
      refine take_ (i := 21) (N := some 72) (v := ?_) (a' := ?_) #[true, false, true, true, true, true, true, true, false, true, true, true, true, true, true, true, false, false, true, true, true, true, true, false, false, false, false, false] rfl rfl (take_ofW HT_.out HW_.out (by kernel_rfl)) (fun _ _ _ h => h) (Or.inl ⟨by rfl, ?_⟩) hHeld ?_ ?_
      rotate_left
      · rintro w' ⟨s0, s1⟩
        go_simp
        with_reducible rfl
      rotate_left
      · simp only [Act.put, List.setIfInBounds_toArray, List.set_cons_zero, List.set_cons_succ, i64_w, i32_w]
        rfl
      refine pure_ (i := 23) (N := some 74) (v := ?_) (a' := ?_) #[true, false, true, true, true, true, true, true, false, true, true, true, true, true, true, true, false, false, true, true, true, true, true, true, false, false, false, false] rfl rfl (any_of HT_.out (by kernel_rfl)) (fun _ _ _ h => h) (Or.inl ⟨by rfl, ?_⟩) ?_ ?_
      rotate_left
      · intro w'
        go_simp
        with_reducible rfl
      rotate_left
      · simp only [Act.put, List.setIfInBounds_toArray, List.set_cons_zero, List.set_cons_succ, i64_w, i32_w]
        rfl
      refine join_ (σ := Value × Nat × Nat) 5 #[true, true, true, true, true, true, true, true, true, true, true, true, true, true, true, true, true, false, true, true, true, true, true, true, false, false, false, false] (fun s => [(52, .slice (some ⟨s.2.2, 0, none⟩) 0 0), (59, s.1), (67, .slice (some ⟨s.2.1, 0, none⟩) 1 1)]) (fun s w' => RK.R 60 w' wc.heap.size (fun _ => True) s.1 ([] ++ l.take p) ∧ RK.R 60 w' wc.heap.size (fun k => k = s.2.1) (.slice (some ⟨s.2.1, 0, none⟩) 1 1) [(⟨at_, last + 1, key⟩ : S58)] ∧ Below wc.heap.size wc w') ?_ ?_
      rotate_left
      · intro hCont
        refine two_ (i := 1) (j := 16) (Ni := some 52) (Nj := some 67) #[true, true, true, true, true, true, true, true, false, true, true, true, true, true, true, true, false, false, true, true, true, true, true, true, false, false, false, false] #[true, false, true, true, true, true, true, true, false, true, true, true, true, true, true, true, true, false, true, true, true, true, true, true, false, false, false, false] rfl rfl rfl rfl (two_of HT_.out (by kernel_rfl)) (by decide) (by decide) (fun K hK => ?_) (fun K hK => ?_)
        · skip
          refine one_lit (W0 := wc) (by simp [Region.wanted]) (N := 52) rfl ([] : List S58) 0 rfl (by omega) ?_ HBc.out ?_
          · first | (go_simp; done) | (go_simp; rfl)
          intro b52 w1 hr hb hbl hge
          have HE := Aside0.mk hr
          have HGE := Aside0.mk hge
          have HB2_ := Aside0.mk hb
          clear hr hb hbl hge HBc
          have HBc := HB2_
          clear HB2_
          refine hK.out _ _ ⟨((HBc.out).cell (p := ⟨g, 0, none⟩) HGL.out).trans Q2.out.1, ((HBc.out).cell (p := ⟨g, 1, none⟩) HGL.out).trans Q2.out.2⟩ (fun hHeld => ?_)
          clear hK K
          refine norm_ (a' := ?_) ?_ ?_
          rotate_left
          · show Act.put _ (some 52) _ = _
            simp only [Act.put, List.setIfInBounds_toArray, List.set_cons_zero, List.set_cons_succ, i64_w, i32_w]
            rfl
          refine two_ (i := 8) (j := 16) (Ni := some 59) (Nj := some 67) #[true, true, true, true, true, true, true, true, true, true, true, true, true, true, true, true, false, false, true, true, true, true, true, true, false, false, false, false] #[true, true, true, true, true, true, true, true, false, true, true, true, true, true, true, true, true, false, true, true, true, true, true, true, false, false, false, false] rfl rfl rfl rfl (two_of HT_.out (by kernel_rfl)) (by decide) (by decide) (fun K hK => ?_) (fun K hK => ?_)
          · skip
            refine one_append (W0 := wc) (by simp [Region.wanted]) (.tmp 52) (.tmp 58) (by rfl) (by rfl) (by rfl) [] (l.take p) (Kd.R_mono HE.out (fun _ _ => trivial)) (Kd.C_below HC.out.1 HBc.out) HBc.out HL1.out ?_
            intro v1 w8 hr hb hg hf
            obtain ⟨A3, c3, m3, rfl⟩ := hf
            have HR3 := Aside0.mk hr
            have HB2_ := Aside0.mk hb
            clear hr hb hg HBc
            have HBc := HB2_
            clear HB2_
            refine hK.out _ _ ⟨((HBc.out).cell (p := ⟨g, 0, none⟩) HGL.out).trans Q2.out.1, ((HBc.out).cell (p := ⟨g, 1, none⟩) HGL.out).trans Q2.out.2⟩ (fun hHeld => ?_)
            clear hK K
            refine norm_ (a' := ?_) ?_ ?_
            rotate_left
            · show Act.put _ (some 59) _ = _
              simp only [Act.put, List.setIfInBounds_toArray, List.set_cons_zero, List.set_cons_succ, i64_w, i32_w]
              rfl
            refine one_ (i := 16) (N := some 67) #[true, true, true, true, true, true, true, true, true, true, true, true, true, true, true, true, true, false, true, true, true, true, true, true, false, false, false, false] rfl rfl (one_of HT_.out (by kernel_rfl)) (by decide) (fun K hK => ?_)
            refine one_lit (W0 := wc) (by simp [Region.wanted]) (N := 67) rfl [(⟨at_, last + 1, key⟩ : S58)] 1 rfl (by omega) ?_ HBc.out ?_
            · first | (go_simp; done) | (go_simp; rfl)
            intro b67 w16 hr hb hbl hge
            have HL := Aside0.mk hr
            have HGL2 := Aside0.mk hge
            have HR2_ := Aside0.mk (Kd.R_below HR3.out hbl)
            clear HR3
            have HR3 := HR2_
            clear HR2_
            have HB2_ := Aside0.mk hb
            clear hr hb hbl hge HBc
            have HBc := HB2_
            clear HB2_
            refine hK.out _ _ ⟨((HBc.out).cell (p := ⟨g, 0, none⟩) HGL.out).trans Q2.out.1, ((HBc.out).cell (p := ⟨g, 1, none⟩) HGL.out).trans Q2.out.2⟩ (fun hHeld => ?_)
            clear hK K
            refine norm_ (a' := ?_) ?_ ?_
            rotate_left
            · show Act.put _ (some 67) _ = _
              simp only [Act.put, List.setIfInBounds_toArray, List.set_cons_zero, List.set_cons_succ, i64_w, i32_w]
              rfl
            exact norm_ (by simp only [putAll, Act.put, List.setIfInBounds_toArray, List.set_cons_zero, List.set_cons_succ]) (hCont (Value.slice A3 m3 c3, b67, b52) _ ⟨HR3.out, HL.out, HBc.out⟩)
          · skip
            refine one_lit (W0 := wc) (by simp [Region.wanted]) (N := 67) rfl [(⟨at_, last + 1, key⟩ : S58)] 1 rfl (by omega) ?_ HBc.out ?_
            · first | (go_simp; done) | (go_simp; rfl)
            intro b67 w16 hr hb hbl hge
            have HL := Aside0.mk hr
            have HGL2 := Aside0.mk hge
            have HE2_ := Aside0.mk (Kd.R_below HE.out hbl)
            have HNE := Aside0.mk (show b67 ≠ b52 from fun e => by have := Kd.R_lt HE.out b52 rfl; have := HGL2.out; omega)
            clear HE
            have HE := HE2_
            clear HE2_
            have HB2_ := Aside0.mk hb
            clear hr hb hbl hge HBc
            have HBc := HB2_
            clear HB2_
            refine hK.out _ _ ⟨((HBc.out).cell (p := ⟨g, 0, none⟩) HGL.out).trans Q2.out.1, ((HBc.out).cell (p := ⟨g, 1, none⟩) HGL.out).trans Q2.out.2⟩ (fun hHeld => ?_)
            clear hK K
            refine norm_ (a' := ?_) ?_ ?_
            rotate_left
            · show Act.put _ (some 67) _ = _
              simp only [Act.put, List.setIfInBounds_toArray, List.set_cons_zero, List.set_cons_succ, i64_w, i32_w]
              rfl
            refine one_ (i := 8) (N := some 59) #[true, true, true, true, true, true, true, true, true, true, true, true, true, true, true, true, true, false, true, true, true, true, true, true, false, false, false, false] rfl rfl (one_of HT_.out (by kernel_rfl)) (by decide) (fun K hK => ?_)
            refine one_append (W0 := wc) (by simp [Region.wanted]) (.tmp 52) (.tmp 58) (by rfl) (by rfl) (by rfl) [] (l.take p) (Kd.R_mono HE.out (fun _ _ => trivial)) (Kd.C_below HC.out.1 HBc.out) HBc.out HL1.out ?_
            intro v1 w8 hr hb hg hf
            obtain ⟨A3, c3, m3, rfl⟩ := hf
            have HR3 := Aside0.mk hr
            have HL2_ := Aside0.mk (Kd.R_grown HL.out hg (fun k hk e => HNE.out (by rw [← hk]; exact Option.some.inj e)))
            clear HL
            have HL := HL2_
            clear HL2_
            have HB2_ := Aside0.mk hb
            clear hr hb hg HBc
            have HBc := HB2_
            clear HB2_
            refine hK.out _ _ ⟨((HBc.out).cell (p := ⟨g, 0, none⟩) HGL.out).trans Q2.out.1, ((HBc.out).cell (p := ⟨g, 1, none⟩) HGL.out).trans Q2.out.2⟩ (fun hHeld => ?_)
            clear hK K
            refine norm_ (a' := ?_) ?_ ?_
            rotate_left
            · show Act.put _ (some 59) _ = _
              simp only [Act.put, List.setIfInBounds_toArray, List.set_cons_zero, List.set_cons_succ, i64_w, i32_w]
              rfl
            exact norm_ (by simp only [putAll, Act.put, List.setIfInBounds_toArray, List.set_cons_zero, List.set_cons_succ]) (hCont (Value.slice A3 m3 c3, b67, b52) _ ⟨HR3.out, HL.out, HBc.out⟩)
        · skip
          refine one_lit (W0 := wc) (by simp [Region.wanted]) (N := 67) rfl [(⟨at_, last + 1, key⟩ : S58)] 1 rfl (by omega) ?_ HBc.out ?_
          · first | (go_simp; done) | (go_simp; rfl)
          intro b67 w16 hr hb hbl hge
          have HL := Aside0.mk hr
          have HGL2 := Aside0.mk hge
          have HB2_ := Aside0.mk hb
          clear hr hb hbl hge HBc
          have HBc := HB2_
          clear HB2_
          refine hK.out _ _ ⟨((HBc.out).cell (p := ⟨g, 0, none⟩) HGL.out).trans Q2.out.1, ((HBc.out).cell (p := ⟨g, 1, none⟩) HGL.out).trans Q2.out.2⟩ (fun hHeld => ?_)
          clear hK K
          refine norm_ (a' := ?_) ?_ ?_
          rotate_left
          · show Act.put _ (some 67) _ = _
            simp only [Act.put, List.setIfInBounds_toArray, List.set_cons_zero, List.set_cons_succ, i64_w, i32_w]
            rfl
          refine one_ (i := 1) (N := some 52) #[true, true, true, true, true, true, true, true, false, true, true, true, true, true, true, true, true, false, true, true, true, true, true, true, false, false, false, false] rfl rfl (one_of HT_.out (by kernel_rfl)) (by decide) (fun K hK => ?_)
          refine one_lit (W0 := wc) (by simp [Region.wanted]) (N := 52) rfl ([] : List S58) 0 rfl (by omega) ?_ HBc.out ?_
          · first | (go_simp; done) | (go_simp; rfl)
          intro b52 w1 hr hb hbl hge
          have HE := Aside0.mk hr
          have HGE := Aside0.mk hge
          have HL2_ := Aside0.mk (Kd.R_below HL.out hbl)
          have HNE := Aside0.mk (show b67 ≠ b52 from fun e => by have := Kd.R_lt HL.out b67 rfl; have := HGE.out; omega)
          clear HL
          have HL := HL2_
          clear HL2_
          have HB2_ := Aside0.mk hb
          clear hr hb hbl hge HBc
          have HBc := HB2_
          clear HB2_
          refine hK.out _ _ ⟨((HBc.out).cell (p := ⟨g, 0, none⟩) HGL.out).trans Q2.out.1, ((HBc.out).cell (p := ⟨g, 1, none⟩) HGL.out).trans Q2.out.2⟩ (fun hHeld => ?_)
          clear hK K
          refine norm_ (a' := ?_) ?_ ?_
          rotate_left
          · show Act.put _ (some 52) _ = _
            simp only [Act.put, List.setIfInBounds_toArray, List.set_cons_zero, List.set_cons_succ, i64_w, i32_w]
            rfl
          refine one_ (i := 8) (N := some 59) #[true, true, true, true, true, true, true, true, true, true, true, true, true, true, true, true, true, false, true, true, true, true, true, true, false, false, false, false] rfl rfl (one_of HT_.out (by kernel_rfl)) (by decide) (fun K hK => ?_)
          refine one_append (W0 := wc) (by simp [Region.wanted]) (.tmp 52) (.tmp 58) (by rfl) (by rfl) (by rfl) [] (l.take p) (Kd.R_mono HE.out (fun _ _ => trivial)) (Kd.C_below HC.out.1 HBc.out) HBc.out HL1.out ?_
          intro v1 w8 hr hb hg hf
          obtain ⟨A3, c3, m3, rfl⟩ := hf
          have HR3 := Aside0.mk hr
          have HL2_ := Aside0.mk (Kd.R_grown HL.out hg (fun k hk e => HNE.out (by rw [← hk]; exact Option.some.inj e)))
          clear HL
          have HL := HL2_
          clear HL2_
          have HB2_ := Aside0.mk hb
          clear hr hb hg HBc
          have HBc := HB2_
          clear HB2_
          refine hK.out _ _ ⟨((HBc.out).cell (p := ⟨g, 0, none⟩) HGL.out).trans Q2.out.1, ((HBc.out).cell (p := ⟨g, 1, none⟩) HGL.out).trans Q2.out.2⟩ (fun hHeld => ?_)
          clear hK K
          refine norm_ (a' := ?_) ?_ ?_
          rotate_left
          · show Act.put _ (some 59) _ = _
            simp only [Act.put, List.setIfInBounds_toArray, List.set_cons_zero, List.set_cons_succ, i64_w, i32_w]
            rfl
          exact norm_ (by simp only [putAll, Act.put, List.setIfInBounds_toArray, List.set_cons_zero, List.set_cons_succ]) (hCont (Value.slice A3 m3 c3, b67, b52) _ ⟨HR3.out, HL.out, HBc.out⟩)
      rintro ⟨v3, b67, b52⟩ w9 ⟨hr, hl, hb⟩
      have HR3 := Aside0.mk hr
      have HL := Aside0.mk hl
      have HB9 := Aside0.mk hb
      clear HBc
      have HBc := HB9
      clear HB9
      have hHeld : w9.cell? ⟨g, 0, none⟩ = some (.slice A n c) ∧ w9.cell? ⟨g, 1, none⟩ = some (.int .i64 (last + 1)) := ⟨((HBc.out).cell (p := ⟨g, 0, none⟩) HGL.out).trans Q2.out.1, ((HBc.out).cell (p := ⟨g, 1, none⟩) HGL.out).trans Q2.out.2⟩
      clear hr hl hb
      dsimp only
      refine norm_ (a' := ?_) ?_ ?_
      rotate_left
      · simp only [putAll, Act.put, List.setIfInBounds_toArray, List.set_cons_zero, List.set_cons_succ]
        rfl
      refine one_ (i := 17) (N := some 68) #[true, true, true, true, true, true, true, true, true, true, true, true, true, true, true, true, true, true, true, true, true, true, true, true, false, false, false, false] rfl rfl (one_of HT_.out (by kernel_rfl)) (by decide) (fun K hK => ?_)
      refine one_append (W0 := wc) (by simp [Region.wanted]) (.tmp 59) (.tmp 67) (by rfl) (by rfl) (by rfl) ([] ++ l.take p) [(⟨at_, last + 1, key⟩ : S58)] HR3.out (Kd.R_reads' HL.out).2.2 HBc.out HL2.out ?_
      intro v1 w17 hr hb hg hf
      obtain ⟨A5, c5, m5, rfl⟩ := hf
      have HR5 := Aside0.mk hr
      have HB5 := Aside0.mk hb
      clear hr hb hg HR3 HL HBc
      refine hK.out _ _ ⟨((HB5.out).cell (p := ⟨g, 0, none⟩) HGL.out).trans Q2.out.1, ((HB5.out).cell (p := ⟨g, 1, none⟩) HGL.out).trans Q2.out.2⟩ (fun hHeld => ?_)
      clear hK K
      refine norm_ (a' := ?_) ?_ ?_
      rotate_left
      · show Act.put _ (some 68) _ = _
        simp only [Act.put, List.setIfInBounds_toArray, List.set_cons_zero, List.set_cons_succ, i64_w, i32_w]
        rfl
      refine one_ (i := 24) (N := some 75) #[true, true, true, true, true, true, true, true, true, true, true, true, true, true, true, true, true, true, true, true, true, true, true, true, true, false, false, false] rfl rfl (one_of HT_.out (by kernel_rfl)) (by decide) (fun K hK => ?_)
      refine one_append (W0 := wc) (by simp [Region.wanted]) (.tmp 68) (.tmp 74) (by rfl) (by rfl) (by rfl) ([] ++ l.take p ++ [(⟨at_, last + 1, key⟩ : S58)]) (l.drop p) HR5.out (Kd.C_below HC.out.2 HB5.out) HB5.out HL3.out ?_
      intro v1 w24 hr hb hg hf
      obtain ⟨A7, c7, m7, rfl⟩ := hf
      have HR7 := Aside0.mk hr
      have HB7 := Aside0.mk hb
      clear hr hb hg HR5 HB5
      have q7 : w24.cell? ⟨g, 0, none⟩ = some (.slice A n c) := ((HB7.out).cell (p := ⟨g, 0, none⟩) HGL.out).trans Q2.out.1
      have f7 : w24.frozen? ⟨g, 0, none⟩ = false := (HB7.out.frozen (p := ⟨g, 0, none⟩) HGL.out).trans F2.out
      refine hK.out _ _ ⟨((HB7.out).cell (p := ⟨g, 0, none⟩) HGL.out).trans Q2.out.1, ((HB7.out).cell (p := ⟨g, 1, none⟩) HGL.out).trans Q2.out.2⟩ (fun hHeld => ?_)
      clear hK K
      refine norm_ (a' := ?_) ?_ ?_
      rotate_left
      · show Act.put _ (some 75) _ = _
        simp only [Act.put, List.setIfInBounds_toArray, List.set_cons_zero, List.set_cons_succ, i64_w, i32_w]
        rfl
      refine pure_ (i := 25) (N := some 76) (v := ?_) (a' := ?_) #[true, true, true, true, true, true, true, true, true, true, true, true, true, true, true, true, true, true, true, true, true, true, true, true, true, true, false, false] rfl rfl (any_of HT_.out (by kernel_rfl)) (fun _ _ _ h => h) (Or.inl ⟨by rfl, ?_⟩) ?_ ?_
      rotate_left
      · intro w'
        go_simp
        with_reducible rfl
      rotate_left
      · simp only [Act.put, List.setIfInBounds_toArray, List.set_cons_zero, List.set_cons_succ, i64_w, i32_w]
        rfl
      refine pure_ (i := 26) (N := some 77) (v := ?_) (a' := ?_) #[true, true, true, true, true, true, true, true, true, true, true, true, true, true, true, true, true, true, true, true, true, true, true, true, true, true, true, false] rfl rfl (any_of HT_.out (by kernel_rfl)) (fun _ _ _ h => h) (Or.inl ⟨by rfl, ?_⟩) ?_ ?_
      rotate_left
      · intro w'
        go_simp
        with_reducible rfl
      rotate_left
      · simp only [Act.put, List.setIfInBounds_toArray, List.set_cons_zero, List.set_cons_succ, i64_w, i32_w]
        rfl
      refine last_ (i := 27) (N := none) #[true, true, true, true, true, true, true, true, true, true, true, true, true, true, true, true, true, true, true, true, true, true, true, true, true, true, true, true] rfl rfl (one_of HT_.out (by kernel_rfl)) (by decide) (fun K hK => ?_)
      refine skip_ (w1 := ?_) (by rfl) rfl ?_ ?_
      rotate_left
      · go_simp
        rfl
      refine hK.out _ _ ?_
      clear hK K
      refine done_ (done_of HT_.out (by kernel_rfl)) ?_
      --R9
      have hA7 := HX.out.1.below HB7.out
      have hU : RK.R 60 w24 B (fun _ => True) (.slice A7 m7 c7) (refPut l ⟨at_, last + 1, key⟩) := by
        have e : refPut l ⟨at_, last + 1, key⟩ = [] ++ l.take p ++ [(⟨at_, last + 1, key⟩ : S58)] ++ l.drop p := by
          unfold refPut
          simp only
          rw [HN.out, HP.out, List.nil_append]
        rw [e]
        exact Kd.R_lower HR7.out HX.out.2.2
      have hp := hA7.put hU
      have q8 := hp.1.cell1
      have HPP := Aside0.mk hp
      clear hA7 hU hp q7 f7 hst hsh
      go_wp2
      go_ret2
      exact ⟨rfl, _, HPP.out.1, (HX.out.2.1.trans (RefK.of_below HB7.out)).trans HPP.out.2⟩

end Go.Proofs.Ytlcnhmigbdaajaa.H
