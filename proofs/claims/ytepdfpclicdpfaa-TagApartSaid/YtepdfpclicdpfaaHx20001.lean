-- written by hp.py for this claim, out of the kit's printer and texts of my own
import Derived.Test.YtepdfpclicdpfaaHx0
import Derived.Test.YtepdfpclicdpfaaHx23
import Derived.Test.YtepdfpclicdpfaaShelf
import Derived.WalkKit
import Derived.BigCall
import Derived.Lib.BufferKept
import Derived.Lib.Hide
import Derived.Deep.LoopGhost
import Derived.Test.YtepdfpclicdpfaaHx23
import Derived.Deep.DeepCutAuto
namespace Go.Proofs.Ytepdfpclicdpfaa.H
open Go.RowKit Go.Proofs.YtepdfpclicdpfaaW.PrintWords Go.Proofs.YtepdfpclicdpfaaW.PrintLast Go.Proofs.YtepdfpclicdpfaaW.PrintMore
attribute [local go_sem] max2_int min2_int max_two min_two max_three min_three max_four min_four   -- for this text's walks alone
set_option linter.unusedVariables false
set_option linter.unusedSimpArgs false

/-- what stands in the place of a byte -/
def markB (c : UInt8) : List UInt8 :=
  if c = 38 then [38, 97, 109, 112, 59] else if c = 60 then [38, 108, 116, 59] else if c = 62 then [38, 103, 116, 59] else if c = 39 then [38, 97, 112, 111, 115, 59] else if c = 34 then [38, 113, 117, 111, 116, 59]
  else if c = 9 then [38, 35, 120, 57, 59] else if c = 10 then [38, 35, 120, 65, 59] else if c = 13 then [38, 35, 120, 68, 59] else []
theorem mark_f (c : UInt8) : tag_mark.f (c.toNat : Int) = some ⟨(markB c).toArray⟩ := by
  have h : ∀ n : Nat, n < 256 → c = UInt8.ofNat n → tag_mark.f (n : Int) = some ⟨(markB (UInt8.ofNat n)).toArray⟩ := by
    intro n hn _
    have : ∀ n : Fin 256, tag_mark.f ((n.val : Nat) : Int) = some ⟨(markB (UInt8.ofNat n.val)).toArray⟩ := by decide +kernel
    exact this ⟨n, hn⟩
  have e : c = UInt8.ofNat c.toNat := by simp
  have := h c.toNat c.toNat_lt e
  rw [← e] at this
  exact this
/-- a byte, quoted -/
def quoteC (c : UInt8) : List UInt8 := if markB c = [] then [c] else markB c
def quoteL (l : List UInt8) : List UInt8 := l.flatMap quoteC
def quoteS (s : ByteArray) : ByteArray := ⟨(quoteL s.data.toList).toArray⟩
theorem quoteC_length (c : UInt8) : (quoteC c).length ≤ 6 ∧ 1 ≤ (quoteC c).length := by
  unfold quoteC markB
  repeat' split
  all_goals first | decide | simp_all
theorem quoteL_length (l : List UInt8) : (quoteL l).length ≤ 6 * l.length := by
  induction l with
  | nil => simp [quoteL]
  | cons c l ih =>
    have := (quoteC_length c).1
    simp only [quoteL, List.flatMap_cons, List.length_append, List.length_cons] at ih ⊢
    omega
theorem quoteL_snoc (l : List UInt8) (c : UInt8) : quoteL (l ++ [c]) = quoteL l ++ quoteC c := by simp [quoteL]
theorem markB_length (c : UInt8) : (markB c).length ≤ 6 := by
  unfold markB
  repeat' split
  all_goals decide
theorem builderBelow {T e : TypeId} {B b : Nat} {bs : List Value} {W W' : World} (h : Lib.IsBuilderF T e B b bs W) (hb : Below W.heap.size W W') : Lib.IsBuilderF T e B b bs W' := by
  have one : ∀ p, Lib.BuilderAtF T e B b p bs W → Lib.BuilderAtF T e B b p bs W' := by
    intro p h
    have hlt := h.lt
    obtain ⟨hB, v, hv, hown, hne⟩ := h
    exact ⟨hB, v, (hb.block b hlt).trans hv, hown.kept (row := none) ⟨hb.os, hb.tape, hb.output, hb.size, fun k hk _ => hb.block k hk⟩ (Classical.em _), hne⟩
  exact h.elim (fun x => .inl (one _ x)) (fun x => .inr (one _ x))
theorem ByteArray_toList_mk (l : List UInt8) : (⟨l.toArray⟩ : ByteArray).toList = l := by
  rw [ByteArray.toList_eq]
abbrev IsB (B b : Nat) (l : List UInt8) (W : World) : Prop := Lib.IsBuilderF 43 5 B b (Lib.byteCells l) W
set_option maxHeartbeats 1000000 in
set_option maxRecDepth 1000000 in
theorem quote_calls (s : ByteArray) (w : World) (hs : s.size ≤ 1000000000) :
    Calls Try.prog 11 #[.string s] w fun e w' => e = .returned (.string (quoteS s)) ∧ Below w.heap.size w w' := by
  go_enter Try.func11, Try.ntmps11
  go_wp2
  go_loopg [8] (s.size + 1) (fun gk q wr => ∃ k : Nat, s.size - k < gk ∧ k ≤ s.size ∧ q = .int .i64 k ∧ Aside0 (IsB w.heap.size w.heap.size (quoteL (s.data.toList.take k)) wr ∧ Below w.heap.size w wr))
  case atStart => exact ⟨0, by omega, Nat.zero_le _, rfl, ⟨Lib.IsBuilderF.of (Lib.fresh_isBuilder 43 5 w), (Below.refl _ w).alloc (Nat.le_refl _) _⟩⟩
  case round =>
    obtain ⟨k, hgk, hk, rfl, HH⟩ := hrel
    have hql := quoteL_length (s.data.toList.take k)
    have htl : (s.data.toList.take k).length ≤ k := List.length_take_le _ _
    by_cases hlt : k < s.size
    · obtain ⟨c, hc⟩ : ∃ c : UInt8, s[k] = c := ⟨_, rfl⟩
      have hst : s.data.toList.take (k + 1) = s.data.toList.take k ++ [c] := by
        rw [List.take_succ_eq_append_getElem (by simpa using hlt)]
        have : s.data.toList[k]'(by simpa using hlt) = s[k] := rfl
        rw [this, hc]
      have HST := Aside0.mk hst
      have hx : ∀ h : k < s.size, ((s[k]'h).toNat : Int) = (c.toNat : Int) := fun h => by rw [← hc]
      have km := fun W => tag_mark.calls (c.toNat : Int) _ W (mark_f c)
      clear hst hc
      have hd0 : decide ((k : Int) < (s.size : Int)) = true := decide_eq_true (by omega)
      have hml := markB_length c
      cases hm : markB c with
      | nil =>
        have hq : quoteC c = [c] := if_pos hm
        have HQ := Aside0.mk hq
        rw [hm] at km
        clear hm hq hml
        go_wp2_with (first
          | (go_at_call 23; refine (km _).mono ?_; rintro e w1 ⟨rfl, ⟨nd, rfl⟩⟩; have HI := Aside0.mk (builderBelow HH.out.1 (pw_below_drewN (Below.refl _ _) nd)); have HB := Aside0.mk (pw_below_drewN HH.out.2 nd); have hsz : w.heap.size ≤ (wr.drewN nd).heap.size := HB.out.size)
          | (go_at_call 24; refine (Try.Builder_WriteByte_k w.heap.size w.heap.size _ (c.toNat : Int) _ HI.out (by rw [Lib.byteCells_length]; omega) hsz).mono ?_; (first | rintro e W3 rfl h1 b1 k1 | rintro e W3 ⟨rfl, h1, b1, k1⟩); have HI3 := Aside0.mk h1; have HB3 := Aside0.mk (HB.out.trans b1); clear h1 b1 k1))
        go_roundg (s.size - k)
        case measure => omega
        case rel => exact ⟨k + 1, by omega, by omega, rfl, ⟨by rw [HST.out, quoteL_snoc, HQ.out]; unfold IsB; rw [Lib.byteCells_append]; exact Or.inr HI3.out, HB3.out⟩⟩
      | cons c0 ms =>
        have hq : quoteC c = markB c := if_neg (by rw [hm]; simp)
        have HQ := Aside0.mk hq
        have he : (markB c) ≠ [] := by rw [hm]; simp
        clear hm hq
        generalize markB c = mm at *
        have he1 : (⟨mm.toArray⟩ : ByteArray).toList.isEmpty = false := by
          rw [ByteArray_toList_mk]
          cases mm with
          | nil => exact absurd rfl he
          | cons a b => rfl
        have hsz2 : (⟨mm.toArray⟩ : ByteArray).size = mm.length := by simp [ByteArray.size]
        have HS2 := Aside0.mk hsz2
        have he2 : (⟨mm.toArray⟩ : ByteArray).toList ≠ [] := by
          intro h
          rw [h] at he1
          cases he1
        clear he hsz2
        generalize hmb : (⟨mm.toArray⟩ : ByteArray) = mb at *
        have HMB := Aside0.mk hmb
        clear hmb
        go_wp2_with (first
          | (go_at_call 23; refine (km _).mono ?_; rintro e w1 ⟨rfl, ⟨nd, rfl⟩⟩; have HI := Aside0.mk (builderBelow HH.out.1 (pw_below_drewN (Below.refl _ _) nd)); have HB := Aside0.mk (pw_below_drewN HH.out.2 nd); have hsz : w.heap.size ≤ (wr.drewN nd).heap.size := HB.out.size)
          | (go_at_call 18; refine (Try.Builder_WriteString_k w.heap.size w.heap.size _ mb _ HI.out (by rw [Lib.byteCells_length]; have := HS2.out; omega) hsz).mono ?_; (first | rintro e W3 rfl h1 b1 k1 | rintro e W3 ⟨rfl, h1, b1, k1⟩); have HI3 := Aside0.mk h1; have HB3 := Aside0.mk (HB.out.trans b1); clear h1 b1 k1))
        go_roundg (s.size - k)
        case measure => omega
        case rel => exact ⟨k + 1, by omega, by omega, rfl, ⟨by rw [HST.out, quoteL_snoc, HQ.out]; unfold IsB; rw [Lib.byteCells_append]; have := HI3.out; rw [← HMB.out] at this; exact Or.inr this, HB3.out⟩⟩
    · have hd0 : decide ((k : Int) < (s.size : Int)) = false := decide_eq_false (by omega)
      have hsl : s.data.toList.length = s.size := by rw [Array.length_toList]; rfl
      have he : quoteL (s.data.toList.take k) = quoteL s.data.toList := by rw [List.take_of_length_le (by omega)]
      clear hsl
      have hI := HH.out.1
      rw [he] at hI
      have HI := Aside0.mk hI
      have hsz : w.heap.size ≤ wr.heap.size := HH.out.2.size
      clear he hI
      go_wp2_with (go_at_call 20; refine (Try.Builder_String_any_k w.heap.size w.heap.size (quoteL s.data.toList) _ HI.out hsz).mono ?_; (first | rintro e W1 rfl h0 b1 k1 | rintro e W1 ⟨rfl, h0, b1, k1⟩))
      go_ret
      exact ⟨rfl, HH.out.2.trans b1⟩
abbrev OK5 (b : Nat) (W W' : World) : Prop := Lib.OthersKept 5 (some b) W W'
/-- an attribute's text -/
def attrL (name value : ByteArray) : List UInt8 := [32] ++ name.data.toList ++ [61, 39] ++ quoteL value.data.toList ++ [39]
theorem quoteS_size (s : ByteArray) : (quoteS s).size ≤ 6 * s.size := by
  have := quoteL_length s.data.toList
  have h1 : s.data.toList.length = s.size := by rw [Array.length_toList]; rfl
  have h2 : (quoteS s).size = (quoteL s.data.toList).length := by simp [quoteS, ByteArray.size]
  omega
theorem data_append (a b : ByteArray) : (a ++ b).data.toList = a.data.toList ++ b.data.toList := by
  rw [ByteArray.data_append, Array.toList_append]
set_option maxHeartbeats 1000000 in
set_option maxRecDepth 1000000 in
theorem putAttr_calls (B b : Nat) (acc : List UInt8) (name value : ByteArray) (W : World) (hI : IsB B b acc W) (hB : B ≤ W.heap.size) (hn : name.size ≤ 100000000) (hv : value.size ≤ 100000000) (ha : acc.length ≤ 100000000000) :
    Calls Try.prog 17 #[.string name, .string value, .pointer (some ⟨b, 0, none⟩)] W fun e W' => e = .returned (.tuple #[]) ∧ IsB B b (acc ++ attrL name value) W' ∧ Below B W W' ∧ OK5 b W W' := by
  have hq := quoteS_size value
  have kQ := fun w => quote_calls value w (by omega)
  have HI := Aside0.mk hI
  clear hI
  have hl : (⟨#[32]⟩ ++ name ++ ⟨#[61, 39]⟩ ++ quoteS value ++ ⟨#[39]⟩ : ByteArray).size ≤ 1000000000 := by
    simp only [ByteArray.size_append]
    have e1 : (⟨#[32]⟩ : ByteArray).size = 1 := rfl
    have e2 : (⟨#[61, 39]⟩ : ByteArray).size = 2 := rfl
    have e3 : (⟨#[39]⟩ : ByteArray).size = 1 := rfl
    omega
  have hd : (⟨#[32]⟩ ++ name ++ ⟨#[61, 39]⟩ ++ quoteS value ++ ⟨#[39]⟩ : ByteArray).data.toList = attrL name value := by
    simp only [data_append]
    rfl
  have HL := Aside0.mk (And.intro hl hd)
  clear hl hd
  go_enter Try.func17, Try.ntmps17
  go_wp2_with (go_at_call 11; refine (kQ _).mono ?_; rintro e w1 ⟨rfl, hb⟩; have HI1 := Aside0.mk (builderBelow HI.out hb); have HB1 := Aside0.mk hb; have hsz : B ≤ w1.heap.size := Nat.le_trans hB hb.size; clear hb)
  clear hq kQ
  generalize hx : (⟨#[32]⟩ ++ name ++ ⟨#[61, 39]⟩ ++ quoteS value ++ ⟨#[39]⟩ : ByteArray) = x at *
  clear hx
  have hxs : x.size ≤ 1000000000 := HL.out.1
  go_wp2_with (go_at_call 18; refine (Try.Builder_WriteString_k B b _ x _ HI1.out (by rw [Lib.byteCells_length]; omega) hsz).mono ?_; (first | rintro e W3 rfl h1 b1 k1 | rintro e W3 ⟨rfl, h1, b1, k1⟩); have HI3 := Aside0.mk h1; have HB3 := Aside0.mk b1; have HK3 := Aside0.mk k1; clear h1 b1 k1)
  go_end0
  refine ⟨rfl, ?_, (HB1.out.mono hB).trans HB3.out, ((Lib.OthersKept.refl _ _ _).below HB1.out).trans HK3.out⟩
  have := HI3.out
  have e : Lib.strCells x = Lib.byteCells (attrL name value) := by rw [← HL.out.2]; rfl
  rw [e] at this
  unfold IsB
  rw [Lib.byteCells_append]
  exact Or.inr this
def attrsL (l : List S51) : List UInt8 := l.flatMap fun a => attrL a.f0 a.f1
def xmlnsS : ByteArray := ⟨#[120, 109, 108, 110, 115]⟩
def nsL (e : S25) (sp : ByteArray) : List UInt8 := if e.f0.toList = sp.toList then [] else attrL xmlnsS e.f0
def putL : Nat → S25 → ByteArray → List UInt8
  | 0, _, _ => []
  | k + 1, e, sp => [60] ++ e.f1.data.toList ++ nsL e sp ++ attrsL e.f2 ++ (if e.f3.toList = [] ∧ e.f4.length = 0 then [47, 62] else [62] ++ quoteL e.f3.data.toList ++ (e.f4.flatMap fun c => putL k c e.f0) ++ [60, 47] ++ e.f1.data.toList ++ [62])
def kidsL (k : Nat) (l : List S25) (sp : ByteArray) : List UInt8 := l.flatMap fun c => putL k c sp
/-- so deep at most -/
def dOk : Nat → S25 → Prop
  | 0, _ => False
  | k + 1, e => ∀ x ∈ e.f4, dOk k x
theorem size_data (s : ByteArray) : s.data.toList.length = s.size := by rw [Array.length_toList]; rfl
theorem quoteL_ge (l : List UInt8) : l.length ≤ (quoteL l).length := by
  induction l with
  | nil => simp [quoteL]
  | cons c l ih =>
    have := (quoteC_length c).2
    simp only [quoteL, List.flatMap_cons, List.length_append, List.length_cons] at ih ⊢
    omega
theorem attrL_ge (n v : ByteArray) : n.size + v.size + 1 ≤ (attrL n v).length := by
  have := quoteL_ge v.data.toList
  rw [size_data] at this
  simp only [attrL, List.length_append, List.length_cons, List.length_nil, size_data]
  omega
theorem attrsL_ge (l : List S51) : l.length ≤ (attrsL l).length := by
  induction l with
  | nil => simp
  | cons a l ih =>
    have := attrL_ge a.f0 a.f1
    simp only [attrsL, List.flatMap_cons, List.length_append, List.length_cons] at ih ⊢
    omega
theorem flatMap_mem_le {α β : Type} (f : α → List β) {x : α} : ∀ {l : List α}, x ∈ l → (f x).length ≤ (l.flatMap f).length
  | [], h => by simp at h
  | y :: l, h => by
    simp only [List.flatMap_cons, List.length_append]
    rcases List.mem_cons.1 h with rfl | h
    · omega
    · have := flatMap_mem_le f h
      omega
theorem flatMap_take_le {α β : Type} (f : α → List β) (l : List α) (k : Nat) : ((l.take k).flatMap f).length ≤ (l.flatMap f).length := by
  have : l.flatMap f = (l.take k).flatMap f ++ (l.drop k).flatMap f := by rw [← List.flatMap_append, List.take_append_drop]
  rw [this, List.length_append]
  omega
theorem flatMap_snoc {α β : Type} (f : α → List β) (l : List α) (k : Nat) (x : α) (h : l[k]? = some x) : (l.take (k + 1)).flatMap f = (l.take k).flatMap f ++ f x := by
  rw [List.take_add_one, h]
  simp
theorem putL_pos (k : Nat) (e : S25) (sp : ByteArray) (h : dOk k e) : 1 ≤ (putL k e sp).length := by
  cases k with
  | zero => exact h.elim
  | succ k => simp only [putL, List.length_append, List.length_cons]; omega
theorem kidsL_ge (k : Nat) (sp : ByteArray) : ∀ (l : List S25), (∀ x ∈ l, dOk k x) → l.length ≤ (kidsL k l sp).length
  | [], _ => by simp
  | y :: l, h => by
    have h1 := putL_pos k y sp (h y (by simp))
    have h2 := kidsL_ge k sp l (fun x hx => h x (by simp [hx]))
    simp only [kidsL, List.flatMap_cons, List.length_append, List.length_cons] at h2 ⊢
    omega
/-- what stands in memory while an element is put -/
structure PutW (w0 : World) (b g7 g6 : Nat) (acc : List UInt8) (W : World) : Prop where
  isb : IsB w0.heap.size b acc W
  bel : Below w0.heap.size w0 W
  c7 : W.heap[g7]? = some (.cells #[.func (.func 17) #[] #[.pointer (some ⟨b, 0, none⟩)]] 49 (0, 0))
  c6 : W.heap[g6]? = some (.cells #[.func (.func 19) #[] #[.pointer (some ⟨b, 0, none⟩), .pointer (some ⟨g7, 0, none⟩), .pointer (some ⟨g6, 0, none⟩)]] 44 (0, 0))
  n7 : g7 ≠ b
  n6 : g6 ≠ b
theorem OK5.block {b g : Nat} {t : TypeId} {cs : Array Value} {W W' : World} (h : OK5 b W W') (hg : W.heap[g]? = some (.cells cs t (0, 0))) (hn : g ≠ b) (ht : t ≠ 5) : W'.heap[g]? = some (.cells cs t (0, 0)) :=
  h g _ hg (fun e => hn (Option.some.inj e)) (fun c fz e => by injection e with _ e2 _; exact ht e2)
theorem PutW.step {w0 : World} {b g7 g6 : Nat} {acc acc' : List UInt8} {W W' : World} (h : PutW w0 b g7 g6 acc W) (hI : IsB w0.heap.size b acc' W') (hB : Below w0.heap.size W W') (hK : OK5 b W W') : PutW w0 b g7 g6 acc' W' :=
  ⟨hI, h.bel.trans hB, hK.block h.c7 h.n7 (by decide), hK.block h.c6 h.n6 (by decide), h.n7, h.n6⟩
theorem PutW.below {w0 : World} {b g7 g6 : Nat} {acc : List UInt8} {W W' : World} (h : PutW w0 b g7 g6 acc W) (hB : Below W.heap.size W W') : PutW w0 b g7 g6 acc W' :=
  ⟨builderBelow h.isb hB, h.bel.trans (hB.mono h.bel.size), blk_below h.c7 hB, blk_below h.c6 hB, h.n7, h.n6⟩
theorem PutW.blt {w0 : World} {b g7 g6 : Nat} {acc : List UInt8} {W : World} (h : PutW w0 b g7 g6 acc W) : b < W.heap.size := by
  rcases h.isb with h | h
  · exact h.lt
  · exact h.lt
theorem IsB_snoc {B b : Nat} {acc : List UInt8} {x : ByteArray} {l : List UInt8} {W : World} (hx : x.data.toList = l) (h : Lib.BuilderAtF 43 5 B b (.pointer (some ⟨b, 0, none⟩)) (Lib.byteCells acc ++ Lib.strCells x) W) : IsB B b (acc ++ l) W := by
  rw [Lib.strCells_eq, hx] at h
  unfold IsB
  rw [Lib.byteCells_append]
  exact Or.inr h
theorem putW_string {w0 : World} {b g7 g6 : Nat} {acc l : List UInt8} {W : World} (s : ByteArray) (h : PutW w0 b g7 g6 acc W) (hs : s.data.toList = l) (hl : (acc ++ l).length ≤ 100000000) :
    Calls Try.prog 18 #[.pointer (some ⟨b, 0, none⟩), .string s] W fun e W' => ∃ n : Int, e = .returned (.tuple #[.int .i64 n, .nilIface]) ∧ PutW w0 b g7 g6 (acc ++ l) W' ∧ OK5 b W W' := by
  have hsz : s.size = l.length := by rw [← size_data, hs]
  rw [List.length_append] at hl
  refine (Try.Builder_WriteString_k w0.heap.size b _ s W h.isb (by rw [Lib.byteCells_length]; omega) h.bel.size).mono ?_
  (first | rintro e W3 rfl h1 b1 k1 | rintro e W3 ⟨rfl, h1, b1, k1⟩)
  exact ⟨_, rfl, h.step (IsB_snoc hs h1) b1 k1, k1⟩
theorem putW_attr {w0 : World} {b g7 g6 : Nat} {acc : List UInt8} {W : World} (name value : ByteArray) (h : PutW w0 b g7 g6 acc W) (hl : (acc ++ attrL name value).length ≤ 100000000) :
    Calls Try.prog 17 #[.string name, .string value, .pointer (some ⟨b, 0, none⟩)] W fun e W' => e = .returned (.tuple #[]) ∧ PutW w0 b g7 g6 (acc ++ attrL name value) W' ∧ OK5 b W W' := by
  have h1 := attrL_ge name value
  rw [List.length_append] at hl
  refine (putAttr_calls w0.heap.size b acc name value W h.isb h.bel.size (by omega) (by omega) (by omega)).mono ?_
  rintro e W' ⟨rfl, h2, h3, h4⟩
  exact ⟨rfl, h.step h2 h3 h4, h4⟩

end Go.Proofs.Ytepdfpclicdpfaa.H
