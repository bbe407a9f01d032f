-- written by hp.py for this claim, out of the kit's printer and texts of my own
import Derived.Test.YtlcnhmigbdaajaaHx0
import Derived.Test.YtlcnhmigbdaajaaHx20001
import Derived.Test.YtlcnhmigbdaajaaHx20003
import Derived.Test.YtlcnhmigbdaajaaHx20005
import Derived.Test.YtlcnhmigbdaajaaHx20006
import Derived.Test.YtlcnhmigbdaajaaHx20007
import Derived.Test.YtlcnhmigbdaajaaHx20009
import Derived.Test.YtlcnhmigbdaajaaHx20009
namespace Go.Proofs.Ytlcnhmigbdaajaa.H
open Go.RowKit Go.Proofs.YtlcnhmigbdaajaaW.PrintWords Go.Proofs.YtlcnhmigbdaajaaW.PrintLast Go.Proofs.YtlcnhmigbdaajaaW.PrintMore
attribute [local go_sem] max2_int min2_int max_two min_two max_three min_three max_four min_four   -- for this text's walks alone
set_option linter.unusedVariables false
set_option linter.unusedSimpArgs false

theorem swap_perm' (l : List S58) (i j : Nat) (x y : S58) (hi : l[i]? = some x) (hj : l[j]? = some y) : ((l.set i y).set j x).Perm l := by
  obtain ⟨h1, e1⟩ := List.getElem?_eq_some_iff.mp hi
  obtain ⟨h2, e2⟩ := List.getElem?_eq_some_iff.mp hj
  rw [← e1, ← e2]
  exact List.set_set_perm h1 h2
theorem alUp_perm : ∀ (k : Nat) (l : List S58) (j : Nat), (alUp k l j).Perm l
  | 0, l, j => .refl _
  | k + 1, l, j => by
    rw [alUp]
    split
    · rename_i x y hx hy
      split
      · exact .refl _
      · split
        · exact (alUp_perm k _ _).trans (swap_perm' l _ _ y x hy hx)
        · exact .refl _
    · exact .refl _
theorem alDown_perm (n : Nat) : ∀ (k : Nat) (l : List S58) (j : Nat), (alDown n k l j).Perm l
  | 0, l, j => .refl _
  | k + 1, l, j => by
    rw [alDown]
    split
    · split
      · rename_i x y hx hy
        split
        · exact (alDown_perm n k _ _).trans (swap_perm' l _ _ y x hy hx)
        · exact .refl _
      · exact .refl _
    · exact .refl _
theorem alInitN_perm (n : Nat) : ∀ (k : Nat) (l : List S58), (alInitN n k l).Perm l
  | 0, _ => .refl _
  | k + 1, l => (alInitN_perm n k _).trans (alDown_perm _ _ _ _)
theorem alInit_perm (l : List S58) : (alInit l).Perm l := alInitN_perm _ _ _
theorem alPushed_perm (l : List S58) (x : S58) : (alPushed l x).Perm (l ++ [x]) := alUp_perm _ _ _
theorem alDropped_perm (key : ByteArray) (l : List S58) : (alDropped key l).Perm (alKeep key l) := alInit_perm _
theorem alPopped_perm (a : S58) (t : List S58) : (alPopped a t).Perm t := by
  have h1 : (alSunk a t).Perm (a :: t) := by
    unfold alSunk
    refine (alDown_perm _ _ _ _).trans (swap_perm' (a :: t) 0 t.length a _ rfl ?_)
    rw [List.getD_eq_getElem?_getD, List.getElem?_eq_getElem (by simp)]
    rfl
  rw [alSunk_eq] at h1
  have h2 : (a :: alPopped a t).Perm (a :: t) := (List.perm_append_singleton a (alPopped a t)).symm.trans h1
  exact h2.cons_inv
/-- all are such -/
def AlAll (p : S58 → Prop) (l : List S58) : Prop := ∀ x, x ∈ l → p x
theorem AlAll.perm {p : S58 → Prop} {l l' : List S58} (h : AlAll p l) (hp : l'.Perm l) : AlAll p l' := fun x hx => h x (hp.mem_iff.mp hx)
/-- what is behind a Due: nothing that is due -/
theorem alDue_ok (now : Int) : ∀ (k : Nat) (l : List S58), l.length ≤ k →
    (alDue now k l).1.length + (alDue now k l).2.length = l.length ∧ (∀ a t, (alDue now k l).2 = a :: t → now < a.f0) ∧
    (∀ p, AlAll p l → AlAll p (alDue now k l).2 ∧ ∀ s, s ∈ (alDue now k l).1 → ∃ x, p x ∧ x.f2 = s ∧ x.f0 ≤ now)
  | 0, l, h => by
    obtain rfl : l = [] := List.eq_nil_of_length_eq_zero (by omega)
    exact ⟨rfl, fun a t e => by simp [alDue] at e, fun p hp => ⟨hp, fun s hs => by simp [alDue] at hs⟩⟩
  | k + 1, [], h => ⟨rfl, fun a t e => by simp [alDue] at e, fun p hp => ⟨hp, fun s hs => by simp [alDue] at hs⟩⟩
  | k + 1, a :: t, h => by
    rw [alDue]
    split
    · rename_i c
      refine ⟨by simp, fun b u e => ?_, fun p hp => ⟨hp, fun s hs => by simp at hs⟩⟩
      injection e with e1 e2
      subst e1
      exact c
    · rename_i c
      simp only [List.length_cons] at h
      obtain ⟨h1, h2, h3⟩ := alDue_ok now k (alPopped a t) (by rw [alPopped_length]; omega)
      refine ⟨by simp only [List.length_cons]; rw [alPopped_length] at h1; omega, h2, fun p hp => ?_⟩
      have hq : AlAll p (alPopped a t) := AlAll.perm (fun x hx => hp x (List.mem_cons_of_mem _ hx)) (alPopped_perm a t)
      obtain ⟨h4, h5⟩ := h3 p hq
      refine ⟨h4, fun s hs => ?_⟩
      rcases List.mem_cons.mp hs with e | hs
      · exact ⟨a, hp a List.mem_cons_self, e.symm, by omega⟩
      · exact h5 s hs
theorem StrRow.reads {b : Nat} {W : World} {u : Value} {out : List ByteArray} (h : StrRow b W u out) : ∃ A c, u = .slice A out.length c ∧ out.length ≤ c ∧ Kd.C Kd.string W A out.length out := by
  have hR : Kd.string.R 9 W b (fun _ => True) u out := Kd.R_of_own h (fun _ _ => trivial)
  obtain ⟨A, c, e, hc, hC⟩ := Kd.R_reads hR
  exact ⟨A, c, e, hc, hC⟩
theorem StrRow.lit (W : World) (out : List ByteArray) (h : out.length ≤ 1000) : StrRow 0 (W.alloc (.cells (out.map Value.string).toArray 9)) (.slice (some ⟨W.heap.size, 0, none⟩) out.length out.length) out := by
  have := World.ownsRow_lit (base := 0) (e := 9) (size := 1) W (out.map Value.string).toArray out.length (Nat.zero_le _) (by unfold maxLen; omega) (by simp)
  simpa using this
theorem StrRow.readsAt {b n c : Nat} {A : Option Addr} {W : World} {out : List ByteArray} (h : StrRow b W (.slice A n c) out) : n = out.length ∧ n ≤ c ∧ Kd.C Kd.string W A out.length out := by
  have hR : Kd.string.R 9 W b (fun _ => True) (.slice A n c) out := Kd.R_of_own h (fun _ _ => trivial)
  exact Kd.R_reads' hR
theorem num_calls (a : Int) (W : World) : Calls Try.prog 12 #[.int .i64 a] W fun e W' => e = .returned (.int .i64 a) ∧ W = W' := by
  go_enter Try.func12, Try.ntmps12
  go_wp2
  go_ret
  exact ⟨rfl, rfl⟩

end Go.Proofs.Ytlcnhmigbdaajaa.H
