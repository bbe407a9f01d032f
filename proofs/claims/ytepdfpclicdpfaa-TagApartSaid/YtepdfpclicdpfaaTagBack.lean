/-
  An element's text tells the element: quotes, names, attributes, kids are read off it, one behind the other.
-/
import Derived.Test.YtepdfpclicdpfaaHx20003
namespace Go.Proofs.Ytepdfpclicdpfaa.TagBack
open Go.RowKit Go.Proofs.Ytepdfpclicdpfaa.H Go.Proofs.YtepdfpclicdpfaaW.PrintWords Go.Proofs.YtepdfpclicdpfaaW.PrintLast Go.Proofs.YtepdfpclicdpfaaW.PrintMore

theorem byte_all (P : UInt8 → Prop) (h : ∀ n : Fin 256, P (UInt8.ofNat n.val)) (c : UInt8) : P c := by
  have := h ⟨c.toNat, c.toNat_lt⟩
  simpa using this
theorem bytes_eq {a b : ByteArray} (h : a.data.toList = b.data.toList) : a = b := ByteArray.ext (Array.toList_inj.mp h)
def dec : List UInt8 → Option (UInt8 × List UInt8)
  | [] => none
  | c :: X => if c = 38 then (match X with
    | 97 :: 109 :: 112 :: 59 :: Y => some (38, Y)
    | 108 :: 116 :: 59 :: Y => some (60, Y)
    | 103 :: 116 :: 59 :: Y => some (62, Y)
    | 97 :: 112 :: 111 :: 115 :: 59 :: Y => some (39, Y)
    | 113 :: 117 :: 111 :: 116 :: 59 :: Y => some (34, Y)
    | 35 :: 120 :: 57 :: 59 :: Y => some (9, Y)
    | 35 :: 120 :: 65 :: 59 :: Y => some (10, Y)
    | 35 :: 120 :: 68 :: 59 :: Y => some (13, Y)
    | _ => none) else some (c, X)
theorem dec_quote (c : UInt8) (X : List UInt8) : dec (quoteC c ++ X) = some (c, X) := by
  by_cases h1 : c = 38
  · subst h1; rfl
  by_cases h2 : c = 60
  · subst h2; rfl
  by_cases h3 : c = 62
  · subst h3; rfl
  by_cases h4 : c = 39
  · subst h4; rfl
  by_cases h5 : c = 34
  · subst h5; rfl
  by_cases h6 : c = 9
  · subst h6; rfl
  by_cases h7 : c = 10
  · subst h7; rfl
  by_cases h8 : c = 13
  · subst h8; rfl
  have hm : markB c = [] := by unfold markB; simp [h1, h2, h3, h4, h5, h6, h7, h8]
  have hq : quoteC c = [c] := if_pos hm
  rw [hq]
  simp only [List.cons_append, List.nil_append, dec, if_neg h1]
theorem quote_cons {c d : UInt8} {X Y : List UInt8} (h : quoteC c ++ X = quoteC d ++ Y) : c = d ∧ X = Y := by
  have := congrArg dec h
  rw [dec_quote, dec_quote] at this
  simpa using this
/-- bytes at which a quote ends -/
theorem quote_head (c : UInt8) : (quoteC c).head? ≠ some 39 ∧ (quoteC c).head? ≠ some 60 := by
  refine byte_all (fun c => (quoteC c).head? ≠ some 39 ∧ (quoteC c).head? ≠ some 60) ?_ c
  decide +kernel
theorem quote_not {c t : UInt8} {X s : List UInt8} (ht : t = 39 ∨ t = 60) : quoteC c ++ X ≠ t :: s := by
  intro h
  have hl := (quoteC_length c).2
  have hh := quote_head c
  cases hq : quoteC c with
  | nil => rw [hq] at hl; simp at hl
  | cons a b =>
    rw [hq] at h hh
    simp only [List.cons_append, List.cons.injEq] at h
    simp only [List.head?_cons, ne_eq, Option.some.injEq] at hh
    rcases ht with rfl | rfl
    · exact hh.1 h.1
    · exact hh.2 h.1
theorem quote_end {t : UInt8} (ht : t = 39 ∨ t = 60) : ∀ (a b : List UInt8) (r s : List UInt8), quoteL a ++ t :: r = quoteL b ++ t :: s → a = b ∧ r = s
  | [], [], r, s, h => by simpa [quoteL] using h
  | [], d :: b, r, s, h => by
    simp only [quoteL, List.flatMap_nil, List.nil_append, List.flatMap_cons, List.append_assoc] at h
    exact absurd h.symm (quote_not ht)
  | c :: a, [], r, s, h => by
    simp only [quoteL, List.flatMap_nil, List.nil_append, List.flatMap_cons, List.append_assoc] at h
    exact absurd h (quote_not ht)
  | c :: a, d :: b, r, s, h => by
    simp only [quoteL, List.flatMap_cons, List.append_assoc] at h
    obtain ⟨hcd, hh⟩ := quote_cons h
    obtain ⟨hab, hrs⟩ := quote_end ht a b r s hh
    subst hcd hab hrs
    exact ⟨rfl, rfl⟩
/-- signs of a name, ':' too -/
def nameC (c : UInt8) : Bool := restB c || (c == 58)
theorem span_end : ∀ (a b : List UInt8) (x y : UInt8) (r s : List UInt8), a.all nameC = true → b.all nameC = true → nameC x = false → nameC y = false → a ++ x :: r = b ++ y :: s → a = b ∧ x :: r = y :: s
  | [], [], x, y, r, s, _, _, _, _, h => ⟨rfl, h⟩
  | [], d :: b, x, y, r, s, _, hb, hx, _, h => by
    simp only [List.nil_append, List.cons_append, List.cons.injEq] at h
    simp only [List.all_cons, Bool.and_eq_true] at hb
    rw [h.1, hb.1] at hx
    cases hx
  | c :: a, [], x, y, r, s, ha, _, _, hy, h => by
    simp only [List.nil_append, List.cons_append, List.cons.injEq] at h
    simp only [List.all_cons, Bool.and_eq_true] at ha
    rw [← h.1, ha.1] at hy
    cases hy
  | c :: a, d :: b, x, y, r, s, ha, hb, hx, hy, h => by
    simp only [List.cons_append, List.cons.injEq] at h
    simp only [List.all_cons, Bool.and_eq_true] at ha hb
    obtain ⟨hcd, hh⟩ := h
    obtain ⟨hab, h2⟩ := span_end a b x y r s ha.2 hb.2 hx hy hh
    subst hcd hab
    exact ⟨rfl, h2⟩
theorem letter_rest (c : UInt8) : letterB c = true → nameC c = true ∧ c ≠ 47 := by
  refine byte_all (fun c => letterB c = true → nameC c = true ∧ c ≠ 47) ?_ c
  decide +kernel
theorem name_ok {s : ByteArray} (h : nameB s = true) : s.data.toList.all nameC = true ∧ ∃ c l, s.data.toList = c :: l ∧ c ≠ 47 := by
  unfold nameB at h
  split at h
  · cases h
  · next c l hl =>
    simp only [Bool.and_eq_true] at h
    obtain ⟨⟨h1, h2⟩, _⟩ := h
    refine ⟨?_, c, l, hl, (letter_rest c h1).2⟩
    rw [hl]
    simp only [List.all_cons, Bool.and_eq_true]
    refine ⟨(letter_rest c h1).1, ?_⟩
    rw [List.all_eq_true] at h2 ⊢
    intro x hx
    unfold nameC
    rw [h2 x hx]
    rfl
/-- attributes as they must be to be read off: of each the name -/
def AttrsOk (l : List S51) : Prop := ∀ a ∈ l, a.f0.data.toList.all nameC = true
theorem attrsL_cons (a : S51) (A : List S51) (X : List UInt8) : attrsL (a :: A) ++ X = 32 :: (a.f0.data.toList ++ 61 :: 39 :: (quoteL a.f1.data.toList ++ 39 :: (attrsL A ++ X))) := by
  simp only [attrsL, List.flatMap_cons, attrL, List.append_assoc, List.cons_append, List.nil_append]
theorem attrs_end : ∀ (A B : List S51) (x y : UInt8) (r s : List UInt8), AttrsOk A → AttrsOk B → x ≠ 32 → y ≠ 32 → attrsL A ++ x :: r = attrsL B ++ y :: s → A = B ∧ x :: r = y :: s
  | [], [], x, y, r, s, _, _, _, _, h => ⟨rfl, h⟩
  | [], b :: B, x, y, r, s, _, _, hx, _, h => by
    rw [attrsL_cons] at h
    have h' : x :: r = 32 :: _ := h
    simp only [List.cons.injEq] at h'
    exact absurd h'.1 hx
  | a :: A, [], x, y, r, s, _, _, _, hy, h => by
    rw [attrsL_cons] at h
    have h' : 32 :: _ = y :: s := h
    simp only [List.cons.injEq] at h'
    exact absurd h'.1.symm hy
  | a :: A, b :: B, x, y, r, s, hA, hB, hx, hy, h => by
    rw [attrsL_cons, attrsL_cons] at h
    simp only [List.cons.injEq, true_and] at h
    obtain ⟨h1, h2⟩ := span_end _ _ 61 61 _ _ (hA a (by simp)) (hB b (by simp)) (by decide) (by decide) h
    simp only [List.cons.injEq, true_and] at h2
    obtain ⟨h3, h4⟩ := quote_end (Or.inl rfl) _ _ _ _ h2
    obtain ⟨h5, h6⟩ := attrs_end A B x y r s (fun z hz => hA z (by simp [hz])) (fun z hz => hB z (by simp [hz])) hx hy h4
    refine ⟨?_, h6⟩
    obtain ⟨a0, a1⟩ := a
    obtain ⟨b0, b1⟩ := b
    have e0 : a0 = b0 := bytes_eq h1
    have e1 : a1 = b1 := bytes_eq h3
    rw [h5, e0, e1]
def allA (e : S25) (sp : ByteArray) : List S51 := (if e.f0.toList = sp.toList then [] else [⟨xmlnsS, e.f0⟩]) ++ e.f2
theorem allA_eq (e : S25) (sp : ByteArray) : nsL e sp ++ attrsL e.f2 = attrsL (allA e sp) := by
  unfold nsL allA
  split
  · rfl
  · simp only [attrsL, List.flatMap_append, List.flatMap_cons, List.flatMap_nil, List.append_nil]
def bodyL (k : Nat) (e : S25) : List UInt8 := if e.f3.toList = [] ∧ e.f4.length = 0 then [47, 62] else [62] ++ quoteL e.f3.data.toList ++ (e.f4.flatMap fun c => putL k c e.f0) ++ [60, 47] ++ e.f1.data.toList ++ [62]
theorem putL_succ (k : Nat) (e : S25) (sp : ByteArray) : putL (k + 1) e sp = 60 :: (e.f1.data.toList ++ (attrsL (allA e sp) ++ bodyL k e)) := by
  rw [← allA_eq]
  simp only [putL, bodyL, List.append_assoc, List.cons_append, List.nil_append]
theorem body_head (k : Nat) (e : S25) (r : List UInt8) : ∃ x t, bodyL k e ++ r = x :: t ∧ (x = 47 ∨ x = 62) := by
  unfold bodyL
  split
  · exact ⟨47, _, rfl, Or.inl rfl⟩
  · simp only [List.append_assoc, List.cons_append, List.nil_append]
    exact ⟨62, _, rfl, Or.inr rfl⟩
theorem attrs_head (A : List S51) (x : UInt8) (r : List UInt8) (hx : x = 47 ∨ x = 62) : ∃ y t, attrsL A ++ x :: r = y :: t ∧ nameC y = false := by
  cases A with
  | nil => exact ⟨x, r, rfl, by rcases hx with rfl | rfl <;> decide⟩
  | cons a A =>
    rw [attrsL_cons]
    exact ⟨32, _, rfl, by decide⟩
theorem seen_snoc (keys : List ByteArray) (x s : ByteArray) : seenB (keys ++ [x]) s = (seenB keys s || (x.data.toList == s.data.toList)) := by simp [seenB]
theorem attrsGo_seen (x : ByteArray) : ∀ (l : List S51) (keys : List ByteArray), attrsGo keys l = true → seenB keys x = true → ∀ a ∈ l, a.f0.data.toList ≠ x.data.toList
  | [], _, _, _, a, h => by simp at h
  | b :: l, keys, h, hx, a, ha => by
    simp only [attrsGo, Bool.and_eq_true] at h
    rcases List.mem_cons.1 ha with rfl | ha
    · intro he
      have h1 := h.1.1.1
      have : seenB keys a.f0 = seenB keys x := by simp only [seenB, he]
      rw [this, hx] at h1
      cases h1
    · exact attrsGo_seen x l (keys ++ [b.f0]) h.2 (by rw [seen_snoc, hx]; rfl) a ha
theorem attrsGo_ok : ∀ (l : List S51) (keys : List ByteArray), attrsGo keys l = true → AttrsOk l
  | [], _, _, a, h => by simp at h
  | b :: l, keys, h, a, ha => by
    simp only [attrsGo, Bool.and_eq_true] at h
    rcases List.mem_cons.1 ha with rfl | ha
    · have h1 := h.1.1.2
      rw [Bool.or_eq_true] at h1
      rcases h1 with h1 | h1
      · rw [ByteArray.toList_eq] at h1
        rw [beq_iff_eq.1 h1]
        decide
      · exact (name_ok h1).1
    · exact attrsGo_ok l _ h.2 a ha
theorem xmlns_ok : xmlnsS.data.toList.all nameC = true := by decide
theorem allA_ok {e : S25} {sp : ByteArray} (h : attrsB e.f2 = true) : AttrsOk (allA e sp) := by
  unfold attrsB at h
  simp only [Bool.and_eq_true] at h
  intro a ha
  unfold allA at ha
  rcases List.mem_append.1 ha with ha | ha
  · split at ha
    · simp at ha
    · obtain rfl : a = ⟨xmlnsS, e.f0⟩ := by simpa using ha
      exact xmlns_ok
  · exact attrsGo_ok _ _ h.1 a ha
theorem no_xmlns {l : List S51} (h : attrsB l = true) : ∀ a ∈ l, a.f0 ≠ xmlnsS := by
  unfold attrsB at h
  simp only [Bool.and_eq_true] at h
  intro a ha he
  exact attrsGo_seen xmlnsS l _ h.1 (by decide) a ha (by rw [he])
theorem allA_inj {a b : S25} {sp : ByteArray} (ha : attrsB a.f2 = true) (hb : attrsB b.f2 = true) (h : allA a sp = allA b sp) : a.f0 = b.f0 ∧ a.f2 = b.f2 := by
  have t : ∀ x y : ByteArray, x.toList = y.toList → x = y := fun x y h => bytes_eq (by rw [← ByteArray.toList_eq, ← ByteArray.toList_eq]; exact h)
  unfold allA at h
  split at h
  · next h1 =>
    split at h
    · next h2 => exact ⟨(t _ _ h1).trans (t _ _ h2).symm, by simpa using h⟩
    · have : (⟨xmlnsS, b.f0⟩ : S51) ∈ a.f2 := by
        have h' : a.f2 = [⟨xmlnsS, b.f0⟩] ++ b.f2 := by simpa using h
        rw [h']
        simp
      exact absurd rfl (no_xmlns ha _ this)
  · split at h
    · have : (⟨xmlnsS, a.f0⟩ : S51) ∈ b.f2 := by
        have h' : [⟨xmlnsS, a.f0⟩] ++ a.f2 = b.f2 := by simpa using h
        rw [← h']
        simp
      exact absurd rfl (no_xmlns hb _ this)
    · simp only [List.cons_append, List.nil_append, List.cons.injEq, S51.mk.injEq, true_and] at h
      exact h
theorem kids_head (k : Nat) (l : List S25) (sp : ByteArray) (X : List UInt8) (hk : ∀ c ∈ l, elemB k c = true) : ∃ t, (l.flatMap fun c => putL k c sp) ++ 60 :: X = 60 :: t := by
  cases l with
  | nil => exact ⟨X, rfl⟩
  | cons c l =>
    cases k with
    | zero => have := hk c (by simp); cases this
    | succ k =>
      simp only [List.flatMap_cons, putL_succ, List.cons_append, List.append_assoc]
      exact ⟨_, rfl⟩
theorem elemB_parts {k : Nat} {e : S25} (h : elemB (k + 1) e = true) : nameB e.f1 = true ∧ attrsB e.f2 = true ∧ ∀ c ∈ e.f4, elemB k c = true := by
  simp only [elemB, Bool.and_eq_true, List.all_eq_true] at h
  exact ⟨h.1.1.1.1.1.1, h.1.2, h.2⟩
theorem toList_nil {s : ByteArray} (h : s.toList = []) : s = ⟨#[]⟩ := bytes_eq (by rw [← ByteArray.toList_eq]; exact h)
theorem kids_end (k : Nat) (ih : ∀ (a b : S25) (sp : ByteArray) (r s : List UInt8), elemB k a = true → elemB k b = true → putL k a sp ++ r = putL k b sp ++ s → a = b ∧ r = s) (sp : ByteArray) (X Y : List UInt8) :
    ∀ (l m : List S25), (∀ c ∈ l, elemB k c = true) → (∀ c ∈ m, elemB k c = true) → (l.flatMap fun c => putL k c sp) ++ 60 :: 47 :: X = (m.flatMap fun c => putL k c sp) ++ 60 :: 47 :: Y → l = m ∧ X = Y := by
  have hno : ∀ (c : S25) (T Z : List UInt8), elemB k c = true → putL k c sp ++ T ≠ 60 :: 47 :: Z := by
    intro c T Z hc h
    cases k with
    | zero => cases hc
    | succ k =>
      obtain ⟨_, d, l, hd, h47⟩ := name_ok (elemB_parts hc).1
      rw [putL_succ, hd] at h
      simp only [List.cons_append, List.cons.injEq, true_and] at h
      exact h47 h.1
  intro l
  induction l with
  | nil =>
    intro m _ hm h
    cases m with
    | nil => simpa using h
    | cons c m =>
      simp only [List.flatMap_nil, List.nil_append, List.flatMap_cons, List.append_assoc] at h
      exact absurd h.symm (hno c _ _ (hm c (by simp)))
  | cons d l ihl =>
    intro m hl hm h
    cases m with
    | nil =>
      simp only [List.flatMap_nil, List.nil_append, List.flatMap_cons, List.append_assoc] at h
      exact absurd h (hno d _ _ (hl d (by simp)))
    | cons c m =>
      simp only [List.flatMap_cons, List.append_assoc] at h
      obtain ⟨hdc, hh⟩ := ih d c sp _ _ (hl d (by simp)) (hm c (by simp)) h
      obtain ⟨hlm, h2⟩ := ihl m (fun x hx => hl x (by simp [hx])) (fun x hx => hm x (by simp [hx])) hh
      subst hdc hlm
      exact ⟨rfl, h2⟩
theorem put_inj : ∀ (k : Nat) (a b : S25) (sp : ByteArray) (r s : List UInt8), elemB k a = true → elemB k b = true → putL k a sp ++ r = putL k b sp ++ s → a = b ∧ r = s
  | 0, _, _, _, _, _, h, _, _ => by cases h
  | k + 1, a, b, sp, r, s, ha, hb, h => by
    obtain ⟨na, ta, ka⟩ := elemB_parts ha
    obtain ⟨nb, tb, kb⟩ := elemB_parts hb
    rw [putL_succ, putL_succ] at h
    simp only [List.cons_append, List.append_assoc, List.cons.injEq, true_and] at h
    obtain ⟨x, X, hX, hx⟩ := body_head k a r
    obtain ⟨y, Y, hY, hy⟩ := body_head k b s
    rw [hX, hY] at h
    obtain ⟨p, P, hP, hp⟩ := attrs_head (allA a sp) x X hx
    obtain ⟨q, Q, hQ, hq⟩ := attrs_head (allA b sp) y Y hy
    rw [hP, hQ] at h
    obtain ⟨h1, h2⟩ := span_end _ _ p q P Q (name_ok na).1 (name_ok nb).1 hp hq h
    rw [← hP, ← hQ] at h2
    obtain ⟨h3, h4⟩ := attrs_end _ _ x y X Y (allA_ok ta) (allA_ok tb) (by rcases hx with rfl | rfl <;> decide) (by rcases hy with rfl | rfl <;> decide) h2
    rw [← hX, ← hY] at h4
    obtain ⟨h5, h6⟩ := allA_inj ta tb h3
    have h1' := bytes_eq h1
    obtain ⟨a0, a1, a2, a3, a4⟩ := a
    obtain ⟨b0, b1, b2, b3, b4⟩ := b
    simp only at h5 h6 h1' h4 ka kb
    subst h5 h6 h1'
    unfold bodyL at h4
    simp only at h4
    split at h4
    · next hA =>
      split at h4
      · next hB =>
        have e3 : a3 = b3 := (toList_nil hA.1).trans (toList_nil hB.1).symm
        have e4 : a4 = b4 := (List.length_eq_zero_iff.1 hA.2).trans (List.length_eq_zero_iff.1 hB.2).symm
        subst e3 e4
        exact ⟨rfl, by simpa using h4⟩
      · simp only [List.append_assoc, List.cons_append, List.nil_append, List.cons.injEq] at h4
        exact absurd h4.1 (by decide)
    · split at h4
      · simp only [List.append_assoc, List.cons_append, List.nil_append, List.cons.injEq] at h4
        exact absurd h4.1 (by decide)
      · simp only [List.append_assoc, List.cons_append, List.nil_append, List.cons.injEq, true_and] at h4
        obtain ⟨u, hu⟩ := kids_head k a4 a0 (47 :: (a1.data.toList ++ 62 :: r)) ka
        obtain ⟨v, hv⟩ := kids_head k b4 a0 (47 :: (a1.data.toList ++ 62 :: s)) kb
        rw [hu, hv] at h4
        obtain ⟨h7, h8⟩ := quote_end (Or.inr rfl) _ _ _ _ h4
        have h9 : (60 : UInt8) :: u = 60 :: v := by rw [h8]
        rw [← hu, ← hv] at h9
        obtain ⟨rfl, h10⟩ := kids_end k (put_inj k) a0 _ _ a4 b4 ka kb h9
        have := List.append_cancel_left h10
        rw [bytes_eq h7]
        exact ⟨rfl, by simpa using this⟩
theorem attrEq_iff (a b : S51) : attrEq a b = true ↔ a = b := by
  obtain ⟨a0, a1⟩ := a
  obtain ⟨b0, b1⟩ := b
  simp only [attrEq, Bool.and_eq_true, beq_iff_eq, ByteArray.toList_eq, S51.mk.injEq]
  exact ⟨fun h => ⟨bytes_eq h.1, bytes_eq h.2⟩, fun h => by rw [h.1, h.2]; exact ⟨rfl, rfl⟩⟩
theorem listEq_eq {α : Type} {p : α → α → Bool} : ∀ {l m : List α}, (∀ a ∈ l, ∀ b, p a b = true → a = b) → listEq p l m = true → l = m
  | [], [], _, _ => rfl
  | [], _ :: _, _, h => by cases h
  | _ :: _, [], _, h => by cases h
  | a :: l, b :: m, hp, h => by
    simp only [listEq, Bool.and_eq_true] at h
    rw [hp a (by simp) b h.1, listEq_eq (fun x hx => hp x (by simp [hx])) h.2]
theorem listEq_refl {α : Type} {p : α → α → Bool} : ∀ {l : List α}, (∀ a ∈ l, p a a = true) → listEq p l l = true
  | [], _ => rfl
  | a :: l, h => by
    simp only [listEq, Bool.and_eq_true]
    exact ⟨h a (by simp), listEq_refl (fun x hx => h x (by simp [hx]))⟩
theorem same_eq : ∀ (k : Nat) (a b : S25), sameF k a b = true → a = b
  | 0, _, _, h => by cases h
  | k + 1, a, b, h => by
    obtain ⟨a0, a1, a2, a3, a4⟩ := a
    obtain ⟨b0, b1, b2, b3, b4⟩ := b
    simp only [sameF, Bool.and_eq_true, beq_iff_eq, ByteArray.toList_eq] at h
    obtain ⟨⟨⟨⟨h0, h1⟩, h3⟩, h2⟩, h4⟩ := h
    rw [bytes_eq h0, bytes_eq h1, bytes_eq h3, listEq_eq (fun x _ y h => (attrEq_iff x y).1 h) h2, listEq_eq (fun x _ y h => same_eq k x y h) h4]
theorem same_refl : ∀ (k : Nat) (a : S25), dOk k a → sameF k a a = true
  | 0, _, h => h.elim
  | k + 1, a, h => by
    simp only [sameF, Bool.and_eq_true, beq_self_eq_true, true_and]
    exact ⟨listEq_refl (fun x _ => (attrEq_iff x x).2 rfl), listEq_refl (fun x hx => same_refl k x (h x hx))⟩
theorem apart (k : Nat) (a b : S25) (ha : elemB k a = true) (hb : elemB k b = true) (sp : ByteArray) : decide (putL k a sp = putL k b sp) = sameF k a b := by
  by_cases h : putL k a sp = putL k b sp
  · have := (put_inj k a b sp [] [] ha hb (by rw [h])).1
    subst this
    rw [same_refl k a (elemB_dOk k a ha)]
    simp
  · have : sameF k a b = false := by
      cases hs : sameF k a b with
      | false => rfl
      | true => exact absurd (by rw [same_eq k a b hs]) h
    rw [this]
    exact decide_eq_false h
end Go.Proofs.Ytepdfpclicdpfaa.TagBack
