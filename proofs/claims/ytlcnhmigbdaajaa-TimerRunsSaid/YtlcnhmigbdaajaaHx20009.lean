-- written by hp.py for this claim, out of the kit's printer and texts of my own
import Derived.Test.YtlcnhmigbdaajaaHx0
import Derived.Test.YtlcnhmigbdaajaaHx20001
import Derived.Test.YtlcnhmigbdaajaaHx20003
import Derived.Test.YtlcnhmigbdaajaaHx20004
import Derived.Test.YtlcnhmigbdaajaaHx20005
import Derived.Test.YtlcnhmigbdaajaaHx20007
import Derived.Test.YtlcnhmigbdaajaaHx20008
import Derived.Lib.Hide
import Derived.Deep.LoopGhost
import Derived.Deep.DeepCutAuto
import Derived.Deep.AppendLies
namespace Go.Proofs.Ytlcnhmigbdaajaa.H
open Go.RowKit Go.Proofs.YtlcnhmigbdaajaaW.PrintWords Go.Proofs.YtlcnhmigbdaajaaW.PrintLast Go.Proofs.YtlcnhmigbdaajaaW.PrintMore
attribute [local go_sem] max2_int min2_int max_two min_two max_three min_three max_four min_four   -- for this text's walks alone
set_option linter.unusedVariables false
set_option linter.unusedSimpArgs false

theorem addNil_calls (at_ : Int) (key : ByteArray) (W : World) : Calls Try.prog 10 #[.pointer none, .int .i64 at_, .string key] W fun e W' => e = .returned (.tuple #[.int .i64 0, .int .i64 7]) ∧ W = W' := by
  go_enter Try.func10, Try.ntmps10
  go_wp2
  go_ret2
  exact ⟨rfl, rfl⟩
theorem lenNil_calls (W : World) : Calls Try.prog 20 #[.pointer none] W fun e W' => e = .returned (.int .i64 0) ∧ W = W' := by
  go_enter Try.func20, Try.ntmps20
  go_wp2
  go_ret
  exact ⟨rfl, rfl⟩
theorem nextNil_calls (W : World) : Calls Try.prog 18 #[.pointer none] W fun e W' => e = .returned (.tuple #[.int .i64 0, .bool false]) ∧ W = W' := by
  go_enter Try.func18, Try.ntmps18
  go_wp2_with (go_at_call 20; refine (lenNil_calls _).mono ?_; rintro e w1 ⟨rfl, rfl⟩)
  go_ret2
  exact ⟨rfl, rfl⟩
theorem hasNil_calls (key : ByteArray) (W : World) : Calls Try.prog 21 #[.pointer none, .string key] W fun e W' => e = .returned (.bool false) ∧ Below W.heap.size W W' := by
  go_enter Try.func21, Try.ntmps21
  go_wp2
  go_ret
  exact ⟨rfl, below_alloc (Below.refl _ _) _⟩
theorem dropNil_calls (key : ByteArray) (W : World) : Calls Try.prog 13 #[.pointer none, .string key] W fun e W' => e = .returned (.int .i64 0) ∧ Below W.heap.size W W' := by
  go_enter Try.func13, Try.ntmps13
  go_wp2
  go_ret
  exact ⟨rfl, below_alloc (Below.refl _ _) _⟩
theorem dueNil_calls (now : Int) (W : World) : Calls Try.prog 16 #[.pointer none, .int .i64 now] W fun e W' => e = .returned (.slice none 0 0) ∧ W = W' := by
  go_enter Try.func16, Try.ntmps16
  go_wp2_with fail
  refine wp_loop_rounds 1 ?_
  rw [rounds_succ]
  go_wp2_with (go_at_call 18; refine (nextNil_calls _).mono ?_; rintro e w1 ⟨rfl, rfl⟩)
  go_ret
  exact ⟨rfl, rfl⟩
theorem alDown_far (n : Nat) : ∀ (k : Nat) (l : List S58) (i m : Nat), n ≤ m → (alDown n k l i)[m]? = l[m]?
  | 0, l, i, m, h => rfl
  | k + 1, l, i, m, h => by
    rw [alDown]
    split
    · rename_i c
      have hk := alKid_lt n l i c
      split
      · split
        · rw [alDown_far n k _ _ m h, List.getElem?_set_ne (by omega), List.getElem?_set_ne (by omega)]
        · rfl
      · rfl
    · rfl
/-- behind a Pop -/
def alSunk (a : S58) (t : List S58) : List S58 := alDown t.length t.length (((a :: t).set 0 ((a :: t).getD t.length a)).set t.length a) 0
def alPopped (a : S58) (t : List S58) : List S58 := (alSunk a t).dropLast
theorem alSunk_length (a : S58) (t : List S58) : (alSunk a t).length = t.length + 1 := by
  unfold alSunk; rw [alDown_length]; simp
theorem alPopped_length (a : S58) (t : List S58) : (alPopped a t).length = t.length := by
  unfold alPopped; rw [List.length_dropLast, alSunk_length]; omega
theorem alSunk_eq (a : S58) (t : List S58) : alSunk a t = alPopped a t ++ [a] := by
  have hl := alSunk_length a t
  have hne : alSunk a t ≠ [] := fun e => by rw [e] at hl; simp at hl
  have h1 := List.dropLast_concat_getLast hne
  have h2 : (alSunk a t)[t.length]? = some a := by
    unfold alSunk
    rw [alDown_far _ _ _ _ _ (Nat.le_refl _), List.getElem?_set_self (by simp)]
  have h3 : (alSunk a t).getLast hne = a := by
    have h4 := List.getLast?_eq_getElem? (l := alSunk a t)
    rw [List.getLast?_eq_some_getLast hne, hl, Nat.add_sub_cancel, h2] at h4
    exact Option.some.inj h4
  rw [h3] at h1
  exact h1.symm
/-- what is due: told, and left -/
def alDue (now : Int) : Nat → List S58 → List ByteArray × List S58
  | 0, l => ([], l)
  | _ + 1, [] => ([], [])
  | k + 1, a :: t => if now < a.f0 then ([], a :: t) else (a.f2 :: (alDue now k (alPopped a t)).1, (alDue now k (alPopped a t)).2)
theorem heapPop_step (B g : Nat) (a : S58) (t : List S58) (last : Int) (v : Value) (W : World) (h : TimAt B W g (a :: t) last v) (hl : t.length ≤ 900000) :
    Calls Try.prog 27 #[.iface 56 (.pointer (some ⟨g, 0, none⟩))] W fun e W' => e = .returned (.iface 58 (.agg #[.int .i64 a.f0, .int .i64 a.f1, .string a.f2])) ∧ TimIs B g W (alPopped a t) last W' := by
  obtain ⟨A, c, rfl⟩ := own_slice h.own
  have hr : AlRow B W (.slice A (t.length + 1) c) (a :: t) := h.own
  obtain ⟨r, rfl⟩ := hr.ptr (by simp)
  have hb : (a :: t)[t.length]? = some ((a :: t).getD t.length a) := by
    rw [List.getD_eq_getElem?_getD, List.getElem?_eq_getElem (by simp)]
    rfl
  exact (heapPop_calls B g r t.length c (a :: t) (alPopped a t) last a _ W h rfl (by omega) rfl hb (alSunk_eq a t)).mono fun e W' ⟨h1, h2, h3⟩ => ⟨h1, _, h2, h3⟩
theorem infoStr : (Try.prog.info? 9).map (fun i => (i.zero, i.size, i.bytes)) = some (some (.string ⟨#[]⟩), 1, 16) := by kernel_rfl
theorem underStrs : Try.prog.underlying 41 = some (.slice 9) := by kernel_rfl
/-- texts in memory, a row of one's own -/
abbrev StrRow (b : Nat) (W : World) (u : Value) (out : List ByteArray) : Prop := W.ownsRow b 9 1 u out.length (out.map Value.string)
theorem TimK.ownStr {B b n : Nat} {W W1 : World} {u : Value} {xs : List Value} (k : TimK B W W1) (h : W.ownsRow b 9 1 u n xs) : W1.ownsRow b 9 1 u n xs := by
  obtain ⟨h1, h2⟩ := h
  refine ⟨h1, ?_⟩
  rcases h2 with h2 | ⟨g, cap, cur, rfl, hg, hh, r⟩
  · exact .inl h2
  · exact .inr ⟨g, cap, cur, rfl, hg, k.blk hh (by decide) (by decide), r⟩
theorem TimAt.grownStr {B b n g : Nat} {W W1 : World} {l : List S58} {last : Int} {v u : Value} {xs : List Value} (h : TimAt B W g l last v) (hu : W.ownsRow b 9 1 u n xs) (hg : W.grownBy W1 u.ownBlock) : TimAt B W1 g l last v :=
  ⟨blk_grown h.blk hg (own_ne hu h.blk (by decide)), own_other h.own hg (own_type_ne h.own hu (by decide)), h.base⟩
/-- what Due hands back and leaves -/
def TimDue (B g : Nat) (W : World) (r : List ByteArray × List S58) (last : Int) (e : Ending) (W' : World) : Prop := ∃ u, e = .returned u ∧ StrRow W.heap.size W' u r.1 ∧ TimIs B g W r.2 last W'
set_option maxRecDepth 100000 in
set_option maxHeartbeats 1000000 in
theorem due_calls (B g : Nat) (l : List S58) (last : Int) (v : Value) (now : Int) (W : World) (h : TimAt B W g l last v) (hl : l.length ≤ 100000) (hB : B ≤ W.heap.size) :
    Calls Try.prog 16 #[.pointer (some ⟨g, 0, none⟩), .int .i64 now] W (TimDue B g W (alDue now l.length l) last) := by
  obtain ⟨R, hR⟩ : ∃ R, alDue now l.length l = R := ⟨_, rfl⟩
  rw [hR]
  have HR := Aside0.mk hR
  have HT := Aside0.mk h
  clear hR h
  go_enter Try.func16, Try.ntmps16
  go_wp2_with fail
  go_loopg [4] (l.length + 1) (fun k u wr => ∃ (l' : List S58) (v' : Value) (out : List ByteArray), l'.length < k ∧ l'.length ≤ 100000 ∧ out.length + l'.length ≤ l.length ∧ Aside0 (R = (out ++ (alDue now l'.length l').1, (alDue now l'.length l').2) ∧ StrRow W.heap.size wr u out ∧ TimAt B wr g l' last v' ∧ TimK B W wr))
  case atStart => exact ⟨l, v, [], by omega, hl, by simp, ⟨by rw [HR.out]; rfl, own_nil _ _ _ _, HT.out, TimK.refl _ _⟩⟩
  case round =>
    obtain ⟨l', v', out, hk, hl1, hl2, HH⟩ := hrel
    clear HR HT
    cases l' with
    | nil =>
      have kN := next_calls B g [] last v' wr HH.out.2.2.1
      simp only [alNext] at kN
      go_wp2_with (go_at_call 18; refine kN.mono ?_; rintro e w1 ⟨rfl, rfl⟩)
      go_ret
      have e0 := HH.out.1
      rw [show alDue now ([] : List S58).length [] = ([], []) from rfl, List.append_nil] at e0
      rw [e0]
      exact ⟨_, rfl, HH.out.2.1, _, HH.out.2.2⟩
    | cons a t =>
      have kN := next_calls B g (a :: t) last v' wr HH.out.2.2.1
      simp only [alNext] at kN
      simp only [List.length_cons] at hk hl1 hl2
      by_cases c1 : now < a.f0
      · have hd : alDue now (a :: t).length (a :: t) = ([], a :: t) := by rw [List.length_cons, alDue, if_pos c1]
        have e0 : R = (out, a :: t) := by rw [HH.out.1, hd, List.append_nil]
        have HE := Aside0.mk e0
        clear hd e0
        go_wp2_with (go_at_call 18; refine kN.mono ?_; rintro e w1 ⟨rfl, rfl⟩)
        go_ret
        rw [HE.out]
        exact ⟨_, rfl, HH.out.2.1, _, HH.out.2.2⟩
      · have hd : alDue now (a :: t).length (a :: t) = (a.f2 :: (alDue now t.length (alPopped a t)).1, (alDue now t.length (alPopped a t)).2) := by rw [List.length_cons, alDue, if_neg c1]
        have e0 : R = ((out ++ [a.f2]) ++ (alDue now (alPopped a t).length (alPopped a t)).1, (alDue now (alPopped a t).length (alPopped a t)).2) := by rw [HH.out.1, hd, alPopped_length, List.append_assoc]; rfl
        have HE := Aside0.mk e0
        clear hd e0
        have q0 := HH.out.2.2.1.cell
        have kP := heapPop_step B g a t last v' wr HH.out.2.2.1 (by omega)
        have hta := assertAlarm
        go_upto_region 6 with (first | (go_at_call 18; refine kN.mono ?_; rintro e w1 ⟨rfl, rfl⟩; clear kN) | (go_at_call 27; refine kP.mono ?_; rintro e w1 ⟨rfl, v2, hT2, hK2⟩; have HT2 := Aside0.mk hT2; have HK2 := Aside0.mk (HH.out.2.2.2.trans hK2); have HU2 := Aside0.mk (hK2.ownStr HH.out.2.1); clear kP hT2 hK2 q0))
        clear hta
        have hU3 : ((w1.alloc (alObj a)).alloc (.cells #[.string a.f2] 9)).ownsRow W.heap.size 9 1 u4 out.length (out.map Value.string) := pw_own_below HU2.out (below_alloc (below_alloc (Below.refl _ _) _) _)
        have hT3 : TimAt B ((w1.alloc (alObj a)).alloc (.cells #[.string a.f2] 9)) g (alPopped a t) last v2 := HT2.out.below (below_alloc (below_alloc (Below.refl _ _) _) _)
        have hK3 : TimK B W ((w1.alloc (alObj a)).alloc (.cells #[.string a.f2] 9)) := HK2.out.trans (TimK.of_below (below_alloc (below_alloc (Below.refl _ _) _) _))
        have hnw : ∀ j u, [Value.string a.f2][j]? = some u → ((w1.alloc (alObj a)).alloc (.cells #[.string a.f2] 9)).cell? ((⟨w1.heap.size + 1, 0, none⟩ : Addr).add j) = some u := by
          have e : (w1.alloc (alObj a)).heap.size = w1.heap.size + 1 := by simp
          have := World.news_of_block (cs := #[Value.string a.f2]) (t := 9) (fr := (0, 0)) (heap_alloc_new (w1.alloc (alObj a)) (.cells #[.string a.f2] 9))
          rw [e] at this
          exact this
        have hba : W.heap.size ≤ ((w1.alloc (alObj a)).alloc (.cells #[.string a.f2] 9)).heap.size := hK3.size
        obtain ⟨i0, hi, hz0, hz1, hz2⟩ := info_parts infoStr
        have HS := Aside0.mk (And.intro hi (And.intro hz0 (And.intro hz1 (And.intro hz2 (And.intro hU3 (And.intro hT3 (And.intro hK3 (And.intro hnw hba))))))))
        clear hi hz0 hz1 hz2 hU3 hT3 hK3 hnw hba
        go_wp2_with (at_builtin; refine wpList_append_lies _ rfl (.tmp 32) (.tmp 35) 41 rfl W.heap.size 9 i0 (.string ⟨#[]⟩) 1 16 underStrs HS.out.1 HS.out.2.1 HS.out.2.2.1 HS.out.2.2.2.1 rfl Nat.one_pos u4 out.length (out.map Value.string) rfl HS.out.2.2.2.2.1 ⟨w1.heap.size + 1, 0, none⟩ 1 1 [.string a.f2] rfl rfl HS.out.2.2.2.2.2.2.2.1 (fun u hu => by rw [List.mem_singleton.mp hu]; rfl) Nat.one_pos ?c1 ?c2 HS.out.2.2.2.2.2.2.2.2 _ rfl ?_; (case c1 => unfold maxLen; omega); (case c2 => omega); intro g1 cap1 W1 hown hgrow hat hlt1; have HOWN := Aside0.mk hown; have HGROW := Aside0.mk hgrow; clear hown hgrow hat hlt1)
        go_roundg ((a :: t).length)
        case measure => simp only [List.length_cons]; omega
        case rel =>
          have hT4 := HS.out.2.2.2.2.2.1.grownStr HS.out.2.2.2.2.1 HGROW.out
          have hK4 := HS.out.2.2.2.2.2.2.1.new HGROW.out (fun k hk => own_base HS.out.2.2.2.2.1 k hk)
          exact ⟨alPopped a t, v2, out ++ [a.f2], by rw [alPopped_length]; simp, by rw [alPopped_length]; omega, by rw [alPopped_length]; simp; omega, ⟨HE.out, by show World.ownsRow _ _ _ _ _ _ _; rw [List.length_append, List.map_append]; exact HOWN.out, hT4, hK4⟩⟩

end Go.Proofs.Ytlcnhmigbdaajaa.H
