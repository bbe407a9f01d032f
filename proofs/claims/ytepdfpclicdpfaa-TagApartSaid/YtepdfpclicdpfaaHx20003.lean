-- written by hp.py for this claim, out of the kit's printer and texts of my own
import Derived.Test.YtepdfpclicdpfaaHx0
import Derived.Test.YtepdfpclicdpfaaHx21
import Derived.Test.YtepdfpclicdpfaaHx25
import Derived.Test.YtepdfpclicdpfaaHx26
import Derived.Test.YtepdfpclicdpfaaHx33
import Derived.Test.YtepdfpclicdpfaaHx20001
import Derived.Test.YtepdfpclicdpfaaHx20002
import Derived.Test.YtepdfpclicdpfaaHx20002
import Derived.Test.YtepdfpclicdpfaaHx25
import Derived.Test.YtepdfpclicdpfaaHx26
import Derived.Lib.Hide
import Derived.Deep.LoopGhost
import Derived.Deep.DeepCutAuto
import Derived.Maps.OwnSet
import Derived.Test.YtepdfpclicdpfaaTextsRead
namespace Go.Proofs.Ytepdfpclicdpfaa.H
open Go.RowKit Go.Proofs.YtepdfpclicdpfaaW.PrintWords Go.Proofs.YtepdfpclicdpfaaW.PrintLast Go.Proofs.YtepdfpclicdpfaaW.PrintMore
attribute [local go_sem] max2_int min2_int max_two min_two max_three min_three max_four min_four   -- for this text's walks alone
set_option linter.unusedVariables false
set_option linter.unusedSimpArgs false

def letterB (c : UInt8) : Bool := decide (97 ≤ (c ||| 32) ∧ (c ||| 32) ≤ 122) || (c == 95)
def restB (c : UInt8) : Bool := letterB c || (c == 45) || (c == 46) || decide (48 ≤ c ∧ c ≤ 57)
theorem isLetter_f (c : UInt8) : tag_isLetter.f (c.toNat : Int) = some (letterB c) := by
  have h : ∀ n : Nat, n < 256 → c = UInt8.ofNat n → tag_isLetter.f (n : Int) = some (letterB (UInt8.ofNat n)) := by
    intro n hn _
    have : ∀ n : Fin 256, tag_isLetter.f ((n.val : Nat) : Int) = some (letterB (UInt8.ofNat n.val)) := by decide +kernel
    exact this ⟨n, hn⟩
  have e : c = UInt8.ofNat c.toNat := by simp
  have := h c.toNat c.toNat_lt e
  rw [← e] at this
  exact this
/-- a name -/
def nameB (s : ByteArray) : Bool :=
  match s.data.toList with
  | [] => false
  | c :: l => letterB c && l.all restB && decide (s.size ≤ 64)
theorem restB_cases (c : UInt8) {α : Type} (x y : α) : (if letterB c = true then x else if (c.toNat : Int) = 45 then x else if (c.toNat : Int) = 46 then x else if (c.toNat : Int) < 48 then y else if (c.toNat : Int) > 57 then y else x) = if restB c = true then x else y := by
  have e45 : ((c.toNat : Int) = 45) ↔ ((c == 45) = true) := by
    rw [beq_iff_eq, ← UInt8.toNat_inj]; simp; omega
  have e46 : ((c.toNat : Int) = 46) ↔ ((c == 46) = true) := by
    rw [beq_iff_eq, ← UInt8.toNat_inj]; simp; omega
  have e48 : ((c.toNat : Int) < 48) ↔ ¬ (48 ≤ c) := by
    rw [UInt8.le_iff_toNat_le]; simp; omega
  have e57 : ((c.toNat : Int) > 57) ↔ ¬ (c ≤ 57) := by
    rw [UInt8.le_iff_toNat_le]; simp; omega
  simp only [restB, e45, e46, e48, e57]
  by_cases h0 : letterB c = true <;> by_cases h3 : (c == 45) = true <;> by_cases h4 : (c == 46) = true <;> by_cases h1 : (48 ≤ c) <;> by_cases h2 : (c ≤ 57) <;> simp [h0, h1, h2, h3, h4]
theorem bt_get (s : ByteArray) (j : Nat) (h : j < s.data.toList.length) : bt s (j : Int) = ((s.data.toList[j]).toNat : Int) := by
  have h1 : j < s.size := by rw [size_data] at h; exact h
  unfold bt
  rw [Int.toNat_natCast, dif_pos h1]
  rfl
theorem isName_l0 (s : ByteArray) (hs : s.size ≤ 1000000000) : ∀ (d j k : Nat), 1 ≤ j → j + d = s.size → d < k → tag_isName.l0 k s (s.size : Int) (j : Int) = some ((s.data.toList.drop j).all restB && decide (s.size ≤ 64)) := by
  intro d
  have hsl := size_data s
  induction d with
  | zero =>
    intro j k h1 hj hk
    obtain ⟨k, rfl⟩ : ∃ m, k = m + 1 := ⟨k - 1, by omega⟩
    simp only [tag_isName.l0]
    rw [if_neg (by omega), List.drop_eq_nil_of_le (by omega)]
    have hne : ¬ s.toList = [] := by
      rw [ByteArray.toList_eq]
      intro h
      have := congrArg List.length h
      rw [hsl] at this
      simp only [List.length_nil] at this
      omega
    rw [if_neg hne]
    simp only [List.all_nil, Bool.true_and]
    congr 1
    rw [decide_eq_decide]
    omega
  | succ d ih =>
    intro j k h1 hj hk
    obtain ⟨k, rfl⟩ : ∃ m, k = m + 1 := ⟨k - 1, by omega⟩
    have hjl : j < s.data.toList.length := by omega
    simp only [tag_isName.l0]
    rw [if_pos (by omega), if_pos (by omega), if_pos (by omega), bt_get s j hjl, isLetter_f, Option.bind_some, if_neg (by omega : ¬ (j : Int) = 0), restB_cases]
    have e : wrap64 ((j : Int) + 1) = ((j + 1 : Nat) : Int) := by simp only [wrap64]; omega
    rw [e, ih (j + 1) k (by omega) (by omega) (by omega), List.drop_eq_getElem_cons hjl]
    simp only [List.all_cons]
    cases restB (s.data.toList[j]) <;> simp
theorem isName_f (s : ByteArray) (hs : s.size ≤ 1000000000) (k : Nat) (hk : s.size < k) : tag_isName.f k s = some (nameB s) := by
  unfold tag_isName.f
  obtain ⟨k, rfl⟩ : ∃ m, k = m + 1 := ⟨k - 1, by omega⟩
  have hsl := size_data s
  cases hl : s.data.toList with
  | nil =>
    rw [hl] at hsl
    simp only [tag_isName.l0, nameB, hl]
    rw [if_neg (by simp at hsl; omega), if_pos (by rw [ByteArray.toList_eq]; exact hl)]
  | cons c l =>
    rw [hl] at hsl
    simp only [List.length_cons] at hsl
    have h0 : 0 < s.data.toList.length := by rw [hl]; simp
    have hb := bt_get s 0 h0
    simp only [tag_isName.l0, nameB, hl]
    have hc : s.data.toList[0] = c := by simp [hl]
    rw [hc] at hb
    simp only [Int.natCast_zero] at hb
    rw [if_pos (by omega), if_pos (by omega), if_pos (by omega), hb, isLetter_f, Option.bind_some]
    have e : wrap64 ((0 : Int) + 1) = ((1 : Nat) : Int) := by simp [wrap64]
    rw [e, isName_l0 s hs l.length 1 k (by omega) (by omega) (by omega), hl]
    simp only [List.drop_succ_cons, List.drop_zero]
    cases letterB c <;> simp
def textB (s : ByteArray) : Bool := (tag_isText.f (s.size + 5) s).getD false
theorem lawStr : Go.Maps.Keyed Try.prog 9 := Go.Maps.string_keyed Try.underlying9
theorem zeroBool (w : World) : (zeroValue 4).run Try.prog w = .ok (.bool false) w := by kernel_rfl
theorem plainElem_bool_inv {H : Type} {P : Program} {e : TypeId} (he : P.underlying e = some .bool) {v : Value} {z : DataW H × List MemPlace} (h : plainElem P e v = some z) : ∃ a, v = .bool a ∧ z = (.lit (.bool a), []) := by
  unfold plainElem at h
  rw [he] at h
  cases v with
  | bool x => simp at h; exact ⟨x, rfl, h.symm⟩
  | _ => simp at h
abbrev keyL (s : ByteArray) : Lit := .string s.data.toList
def seenD (keys : List ByteArray) : DataW Unit := Go.Maps.setOf (.lit (.bool true)) (keys.map keyL)
abbrev SeenM (B n : Nat) (keys : List ByteArray) (W : World) : Prop := W.ownsMap Try.prog 9 (plainElem (H := Unit) Try.prog 4) B n (seenD keys)
def seenB (keys : List ByteArray) (s : ByteArray) : Bool := keys.any fun y => y.data.toList == s.data.toList
theorem seenD_snoc (keys : List ByteArray) (s : ByteArray) : seenD (keys ++ [s]) = (seenD keys).put (keyL s) (.lit (.bool true)) := by
  unfold seenD
  rw [List.map_append, List.map_singleton, Go.Maps.setOf_snoc]
theorem keyL_isKey (s : ByteArray) : WideAt.IsKeyLit (keyL s) := by simp [keyL, WideAt.IsKeyLit]
theorem seenD_atKey (s : ByteArray) : ∀ (keys : List ByteArray), (seenD keys).atKey (keyL s) (.lit (.bool false)) = .lit (.bool (seenB keys s)) := by
  have hrev : ∀ (r : List ByteArray), (seenD r.reverse).atKey (keyL s) (.lit (.bool false)) = .lit (.bool (seenB r.reverse s)) := by
    intro r
    induction r with
    | nil => rfl
    | cons x r ih =>
      rw [List.reverse_cons, seenD_snoc]
      have hsb : seenB (r.reverse ++ [x]) s = (seenB r.reverse s || (x.data.toList == s.data.toList)) := by simp [seenB]
      rw [hsb]
      by_cases h : x.data.toList = s.data.toList
      · have e : keyL s = keyL x := by simp [keyL, h]
        unfold seenD
        rw [e, Go.Maps.atKey_put_same (Go.Maps.tidy_setOf _ _ (by intro y hy; obtain ⟨z, _, rfl⟩ := List.mem_map.1 hy; exact keyL_isKey z)).isMap (keyL_isKey x), h]
        simp
      · rw [Go.Maps.atKey_put_other (by intro e; exact h (by simpa [keyL] using e.symm)), ih, show (x.data.toList == s.data.toList) = false by simpa using h, Bool.or_false]
  intro keys
  have := hrev keys.reverse
  rwa [List.reverse_reverse] at this
theorem SeenM.look {B n : Nat} {keys : List ByteArray} {W : World} (h : SeenM B n keys W) (s : ByteArray) (hs : s.size ≤ 1000000000) :
    (Instr.lookup 65 (.map (some B)) (.string s) false).run Try.prog W = .ok (.bool (seenB keys s)) W := by
  obtain ⟨v, ps, hrun, hv⟩ := World.ownsMap.lookup (t := 65) h lawStr Try.underlying65 (zeroBool W) (plainElem_bool Try.underlying4 false) (Go.WideMaps.keyOf_string_mk Try.underlying9 (by unfold maxLen; omega) : keyOf Try.prog 9 (.string s) = some (keyL s))
  obtain ⟨c, rfl, hc⟩ := plainElem_bool_inv Try.underlying4 hv
  simp only [Prod.mk.injEq] at hc
  rw [seenD_atKey] at hc
  have := hc.1
  injection this with e
  injection e with e
  rw [hrun, ← e]
theorem SeenM.below {B n : Nat} {keys : List ByteArray} {W W' : World} (h : SeenM B n keys W) (hb : Below W.heap.size W W') : SeenM B n keys W' := by
  have hlt := World.ownsMap.lt h
  obtain ⟨es, clock, h1, h2⟩ := h
  exact ⟨es, clock, (hb.block B hlt).trans h1, h2⟩
/-- may be, behind those names -/
def attrsGo : List ByteArray → List S51 → Bool
  | _, [] => true
  | keys, a :: l => !(seenB keys a.f0) && ((a.f0.toList == [120, 109, 108, 58, 108, 97, 110, 103]) || nameB a.f0) && textB a.f1 && attrsGo (keys ++ [a.f0]) l
def attrsB (l : List S51) : Bool := attrsGo [xmlnsS] l && decide (l.length ≤ 16)
def keysAt (l : List S51) (j : Nat) : List ByteArray := [xmlnsS] ++ (l.take j).map (·.f0)
theorem keysAt_succ (l : List S51) (j : Nat) (x : S51) (h : l[j]? = some x) : keysAt l (j + 1) = keysAt l j ++ [x.f0] := by
  unfold keysAt
  rw [List.take_add_one, h]
  simp
theorem attrsGo_at (l : List S51) (j : Nat) (h : j < l.length) : attrsGo (keysAt l j) (l.drop j) = (!(seenB (keysAt l j) l[j].f0) && ((l[j].f0.toList == [120, 109, 108, 58, 108, 97, 110, 103]) || nameB l[j].f0) && textB l[j].f1 && attrsGo (keysAt l (j + 1)) (l.drop (j + 1))) := by
  rw [List.drop_eq_getElem_cons h, keysAt_succ l j l[j] (List.getElem?_eq_getElem h)]
  rfl
theorem wpList_insert_own {H : Type} {P : Program} (w : World) {ops : Array Oper} {rest : List Oper} {o : Oper} {a : Act} {Q : Exit → Act → World → Prop}
    (hg : o.guard = none) (m x v : Operand) (t : TypeId) (hop : o.op = Op.insert t m x v)
    (k e : TypeId) (K : Go.Maps.Keyed P k) (ht : P.underlying t = some (.map k e)) (R : Value → Option (DataW H × List MemPlace)) (b n : Nat) (D : DataW H)
    (hm : a.eval m = .map (some b)) (hown : w.ownsMap P k R b n D) (hn : n < maxLen) (key val : Value) (kl : Lit) (hx : a.eval x = key) (hv : a.eval v = val) (hkey : keyOf P k key = some kl)
    (d : DataW H) (ps : List MemPlace) (hval : R val = some (d, ps))
    (hK : ∀ w', w'.ownsMap P k R b (n + 1) (D.put kl d) → w.grownBy w' (some b) → wpList P ops Q rest (a.put o.dst undef) w') :
    wpList P ops Q (o :: rest) a w := by
  refine wpList_plain hg fun K' hK' => ?_
  obtain ⟨w', hrun, r1, r2⟩ := hown.update K ht hn hkey hval
  unfold Oper.wp
  simp [execOp, hop, hm, hx, hv, hrun, Result.andThen]
  exact hK' _ _ (hK w' r1 r2)
set_option maxHeartbeats 2000000 in
set_option maxRecDepth 100000 in
theorem isAttrs_calls (l : List S51) (A : Option Addr) (c : Nat) (w : World) (hr : Kd.C k51 w A l.length l) (hl : l.length ≤ 100000000)
    (hN : ∀ x ∈ l, x.f0.size ≤ 100000000 ∧ x.f1.size ≤ 100000000) (hT : ∀ x ∈ l, ∃ k, tag_isText.f k x.f1 = some (textB x.f1)) :
    Calls Try.prog 27 #[.slice A l.length c] w fun e w' => e = .returned (.bool (attrsB l)) ∧ Below w.heap.size w w' := by
  have HR := Aside0.mk hr
  have HN0 := Aside0.mk hN
  have HT := Aside0.mk hT
  have hfull : attrsB l = (attrsGo (keysAt l 0) (l.drop 0) && decide (l.length ≤ 16)) := rfl
  have HF := Aside0.mk hfull
  have HAT := Aside0.mk (attrsGo_at l)
  obtain ⟨n, hn⟩ : ∃ n, l.length = n := ⟨_, rfl⟩
  have HN := Aside0.mk hn
  rw [hn] at hl ⊢
  rw [hfull]
  rw [hn]
  clear hr hN hT hfull hn
  obtain ⟨X, hX⟩ : ∃ X, attrsGo (keysAt l 0) (l.drop 0) = X := ⟨_, rfl⟩
  have HX := Aside0.mk hX
  rw [hX]
  clear hX
  have hmm := @run_makeMap Try.prog
  go_enter Try.func27, Try.ntmps27
  go_upto_region 1 with (fail)
  have hmade : SeenM w.heap.size 0 [] (w.alloc (.map #[] 0)) := World.ownsMap_made _ _ _ _
  have HMADE := Aside0.mk hmade
  clear hmade
  go_upto_region 2 with (first
    | (refine wpList_insert_own _ rfl _ _ _ 65 rfl 9 4 lawStr Try.underlying65 _ w.heap.size 0 _ rfl HMADE.out (by unfold maxLen; omega) _ _ _ rfl rfl (Go.WideMaps.keyOf_string_mk Try.underlying9 (by decide)) _ [] (plainElem_bool Try.underlying4 true) ?_; intro w1 hown1 hgrow1))
  have HS1 : Aside0 (SeenM w.heap.size 1 (keysAt l 0) w1) := ⟨hown1⟩
  have HB1 : Aside0 (Below w.heap.size w w1) := ⟨((Below.refl _ _).alloc (Nat.le_refl _) _).grown hgrow1 (by rw [Deep.nblk_alloc]; omega) (fun j hj => by cases hj; exact Nat.le_refl _)⟩
  clear hown1 hgrow1 HMADE hmm
  go_wp2_with (fail)
  go_loopg [10] (n + 1) (fun gk i wr => ∃ j : Nat, n - j < gk ∧ j ≤ n ∧ i = .int .i64 j ∧ Aside0 (X = attrsGo (keysAt l j) (l.drop j) ∧ SeenM w.heap.size (j + 1) (keysAt l j) wr ∧ Below w.heap.size w wr))
  case atStart => exact ⟨0, by omega, Nat.zero_le _, rfl, ⟨HX.out.symm, HS1.out, HB1.out⟩⟩
  case round =>
    obtain ⟨j, hgk, hj, rfl, HH⟩ := hrel
    clear HS1 HB1
    by_cases hlt : j < n
    · have hd0 : decide ((j : Int) < (n : Int)) = true := decide_eq_true (by omega)
      have hjl : j < l.length := by rw [HN.out]; exact hlt
      obtain ⟨ad, eA, hx0, hx1⟩ := at_T51 HR.out (j : Int) (by omega) (by omega)
      have hxe : rd_T51 l (j : Int) = l[j] := by simp [rd_T51, hjl]
      have hat := HAT.out j hjl
      have hks := keysAt_succ l j l[j] (List.getElem?_eq_getElem hjl)
      have hxm : l[j] ∈ l := List.getElem_mem hjl
      obtain ⟨x, hx⟩ : ∃ x, l[j] = x := ⟨_, rfl⟩
      rw [hxe, hx, Int.toNat_natCast] at hx0 hx1
      rw [hx] at hat hks hxm
      obtain ⟨hsz0, hsz1⟩ := HN0.out x hxm
      obtain ⟨k1, hk1⟩ := HT.out x hxm
      have hk0 := isName_f x.f0 (by omega) (x.f0.size + 1) (by omega)
      cases eA
      replace hx0 := (HH.out.2.2.cell (World.block_lt_of_cell? w _ hx0)).trans hx0
      replace hx1 := (HH.out.2.2.cell (World.block_lt_of_cell? w _ hx1)).trans hx1
      obtain ⟨v, hv⟩ : ∃ v, seenB (keysAt l j) x.f0 = v := ⟨_, rfl⟩
      obtain ⟨nm, hnm⟩ : ∃ nm, (x.f0.toList == [120, 109, 108, 58, 108, 97, 110, 103]) = nm := ⟨_, rfl⟩
      have hnm2 : (x.f0.toList != [120, 109, 108, 58, 108, 97, 110, 103]) = !nm := by rw [← hnm]; rfl
      rw [hv, hnm] at hat
      have hkN := fun W => tag_isName.calls (x.f0.size + 1) x.f0 _ W hk0
      have hkT := fun W => tag_isText.calls k1 x.f1 _ W hk1
      obtain ⟨nb, hnb⟩ : ∃ nb, nameB x.f0 = nb := ⟨_, rfl⟩
      obtain ⟨tb, htb⟩ : ∃ tb, textB x.f1 = tb := ⟨_, rfl⟩
      rw [hnb] at hkN hat
      rw [htb] at hkT hat
      have HATT := Aside0.mk hat
      have HKS := Aside0.mk hks
      have HV := Aside0.mk hv
      clear hat hks hv hk0 hk1 hnb htb hxe hx hxm
      go_upto_region 5 with (fail)
      obtain ⟨w5, hw5⟩ : ∃ w5, wr.alloc (Obj.cells #[Value.string x.f0, Value.string x.f1] 51) = w5 := ⟨_, rfl⟩
      rw [hw5]
      obtain ⟨b5, hb5⟩ : ∃ b, wr.heap.size = b := ⟨_, rfl⟩
      have hB5 : Below wr.heap.size wr w5 := by rw [← hw5]; exact (Below.refl _ _).alloc (Nat.le_refl _) _
      have h55 : w5.heap[b5]? = some (.cells #[.string x.f0, .string x.f1] 51 (0, 0)) := by rw [← hw5, ← hb5]; exact blk_new _ _
      have hS5 : SeenM w.heap.size (j + 1) (keysAt l j) w5 := by rw [← hw5]; exact World.ownsMap.alloc HH.out.2.1 _
      have hlk : (Instr.lookup 65 (.map (some w.heap.size)) (.string x.f0) false).run Try.prog w5 = .ok (.bool v) w5 := by
        rw [← HV.out]; exact SeenM.look hS5 x.f0 (by omega)
      have H55 := Aside0.mk h55
      have HS5 := Aside0.mk hS5
      have HB5 := Aside0.mk (below_step HH.out.2.2 hB5)
      have hz0 : w5.cell? ⟨b5, 0, none⟩ = some (.string x.f0) := (blk_cell h55 0).trans rfl
      have hz1 : w5.cell? ⟨b5, 1, none⟩ = some (.string x.f1) := (blk_cell h55 1).trans rfl
      rw [hb5]
      clear hw5 hb5 hB5 h55 hS5 hx0 hx1
      cases v with
      | true =>
        go_wp2_with (fail)
        go_ret
        rw [HH.out.1, HATT.out]
        exact ⟨by simp, HB5.out⟩
      | false =>
        cases nm with
        | true =>
          cases tb with
          | true =>
            go_wp2_with (first | (at_mapUpdate; refine wpList_mapUpdate_own _ rfl _ _ _ 65 rfl 9 4 lawStr Try.underlying65 _ w.heap.size (j + 1) _ rfl HS6.out (by unfold maxLen; omega) _ _ _ rfl rfl (Go.WideMaps.keyOf_string_mk Try.underlying9 (by unfold maxLen; omega)) _ [] (plainElem_bool Try.underlying4 true) ?_; intro w8 hown8 hgrow8) | (go_at_call 26; refine (hkT _).mono ?_; rintro e w6 ⟨rfl, hb6⟩; have HS6 := Aside0.mk (SeenM.below (W := w5) HS5.out hb6); have HB6 := Aside0.mk (below_step HB5.out hb6); have hq0 := (hb6.cell (World.block_lt_of_cell? w5 _ hz0)).trans hz0; clear hb6))
            have HS8 : Aside0 (SeenM w.heap.size (j + 1 + 1) (keysAt l (j + 1)) w8) := ⟨by rw [HKS.out]; show World.ownsMap _ _ _ _ _ _ (seenD (keysAt l j ++ [x.f0])); rw [seenD_snoc]; exact hown8⟩
            have HB8 : Aside0 (Below w.heap.size w w8) := ⟨Below.grown HB6.out hgrow8 HB6.out.size (fun j hj => by cases hj; exact Nat.le_refl _)⟩
            clear hown8 hgrow8
            go_roundg (n - j)
            case measure => omega
            case rel => exact ⟨j + 1, by omega, by omega, rfl, ⟨by rw [HH.out.1, HATT.out]; simp, HS8.out, HB8.out⟩⟩
          | false =>
            go_wp2_with (first | (go_at_call 26; refine (hkT _).mono ?_; rintro e w6 ⟨rfl, hb6⟩; have HS6 := Aside0.mk (SeenM.below (W := w5) HS5.out hb6); have HB6 := Aside0.mk (below_step HB5.out hb6); have hq0 := (hb6.cell (World.block_lt_of_cell? w5 _ hz0)).trans hz0; clear hb6))
            go_ret
            rw [HH.out.1, HATT.out]
            exact ⟨by simp, HB6.out⟩
        | false =>
          cases nb with
          | false =>
            go_wp2_with (first | (go_at_call 25; refine (hkN _).mono ?_; rintro e w' ⟨rfl, ⟨nd0, rfl⟩⟩))
            go_ret
            rw [HH.out.1, HATT.out]
            exact ⟨by simp, (pw_below_drewN HB5.out nd0)⟩
          | true =>
            cases tb with
            | true =>
              go_wp2_with (first | (at_mapUpdate; refine wpList_mapUpdate_own _ rfl _ _ _ 65 rfl 9 4 lawStr Try.underlying65 _ w.heap.size (j + 1) _ rfl HS6.out (by unfold maxLen; omega) _ _ _ rfl rfl (Go.WideMaps.keyOf_string_mk Try.underlying9 (by unfold maxLen; omega)) _ [] (plainElem_bool Try.underlying4 true) ?_; intro w8 hown8 hgrow8) | (go_at_call 25; refine (hkN _).mono ?_; rintro e w' ⟨rfl, ⟨nd0, rfl⟩⟩) | (go_at_call 26; refine (hkT _).mono ?_; rintro e w6 ⟨rfl, hb6⟩; have HS6 := Aside0.mk (SeenM.below (W := w5.drewN nd0) HS5.out hb6); have HB6 := Aside0.mk (below_step (pw_below_drewN HB5.out nd0) hb6); have hq0 := (hb6.cell (World.block_lt_of_cell? w5 _ hz0)).trans hz0; clear hb6))
              have HS8 : Aside0 (SeenM w.heap.size (j + 1 + 1) (keysAt l (j + 1)) w8) := ⟨by rw [HKS.out]; show World.ownsMap _ _ _ _ _ _ (seenD (keysAt l j ++ [x.f0])); rw [seenD_snoc]; exact hown8⟩
              have HB8 : Aside0 (Below w.heap.size w w8) := ⟨Below.grown HB6.out hgrow8 HB6.out.size (fun j hj => by cases hj; exact Nat.le_refl _)⟩
              clear hown8 hgrow8
              go_roundg (n - j)
              case measure => omega
              case rel => exact ⟨j + 1, by omega, by omega, rfl, ⟨by rw [HH.out.1, HATT.out]; simp, HS8.out, HB8.out⟩⟩
            | false =>
              go_wp2_with (first | (go_at_call 25; refine (hkN _).mono ?_; rintro e w' ⟨rfl, ⟨nd0, rfl⟩⟩) | (go_at_call 26; refine (hkT _).mono ?_; rintro e w6 ⟨rfl, hb6⟩; have HS6 := Aside0.mk (SeenM.below (W := w5.drewN nd0) HS5.out hb6); have HB6 := Aside0.mk (below_step (pw_below_drewN HB5.out nd0) hb6); have hq0 := (hb6.cell (World.block_lt_of_cell? w5 _ hz0)).trans hz0; clear hb6))
              go_ret
              rw [HH.out.1, HATT.out]
              exact ⟨by simp, HB6.out⟩
    · have hd0 : decide ((j : Int) < (n : Int)) = false := decide_eq_false (by omega)
      have hz : X = true := by
        rw [HH.out.1, List.drop_eq_nil_of_le (by rw [HN.out]; omega)]
        rfl
      have HZ := Aside0.mk hz
      clear hz
      go_wp2_with (fail)
      go_ret
      rw [HZ.out]
      exact ⟨by congr 2; simp; omega, HH.out.2.2⟩
theorem isText_some (s : ByteArray) (hs : s.size ≤ 1000000000) (k : Nat) (hk : s.size + 5 ≤ k) : ∃ b, tag_isText.f k s = some b := by
  unfold tag_isText.f
  by_cases h : ∃ cs, Go.Proofs.Ytepdfpclicdpfaa.Utf.Text cs (Go.Proofs.Ytepdfpclicdpfaa.Bytes.L s)
  · obtain ⟨cs, h⟩ := h
    rw [Go.Proofs.Ytepdfpclicdpfaa.Utf.Check_ok h (by omega) k hk]
    exact ⟨_, rfl⟩
  · rw [Go.Proofs.Ytepdfpclicdpfaa.Utf.Check_no h (by omega) k hk]
    exact ⟨_, rfl⟩
theorem isText_f (s : ByteArray) (hs : s.size ≤ 1000000000) : ∃ k, tag_isText.f k s = some (textB s) := by
  obtain ⟨b, hb⟩ := isText_some s hs (s.size + 5) (by omega)
  refine ⟨s.size + 5, ?_⟩
  unfold textB
  rw [hb]
  rfl
/-- an element that may be, with so many within one another -/
def elemB : Nat → S25 → Bool
  | 0, _ => false
  | k + 1, e => nameB e.f1 && !(e.f0.toList == []) && decide (e.f0.size ≤ 256) && textB e.f0 && textB e.f3 && attrsB e.f2 && e.f4.all (elemB k)
abbrev IsElemAt (k : Nat) : Prop := ∀ (e : S25) (A2 A4 : Option Addr) (c2 c4 : Nat) (w : World), eOk k e → e.f2.length ≤ c2 → Kd.C k51 w A2 e.f2.length e.f2 → e.f4.length ≤ c4 → Kd.C k25 w A4 e.f4.length e.f4 →
  Calls Try.prog 13 #[.agg #[.string e.f0, .string e.f1, .slice A2 e.f2.length c2, .string e.f3, .slice A4 e.f4.length c4], .int .i64 k] w fun r W' => r = .returned (.bool (elemB k e)) ∧ Below w.heap.size w W'
set_option maxHeartbeats 1000000 in
set_option maxRecDepth 100000 in
theorem notElem_calls (k : Nat) (hk : k ≤ 1000) (hE : IsElemAt k) (g : Nat) (x : S25) (A2 A4 : Option Addr) (c2 c4 : Nat) (w : World) (hx : eOk k x) (hc2 : x.f2.length ≤ c2) (h2 : Kd.C k51 w A2 x.f2.length x.f2) (hc4 : x.f4.length ≤ c4) (h4 : Kd.C k25 w A4 x.f4.length x.f4)
    (hg : w.cell? ⟨g, 0, none⟩ = some (.int .i64 ((k : Int) + 1))) :
    Calls Try.prog 29 #[.agg #[.string x.f0, .string x.f1, .slice A2 x.f2.length c2, .string x.f3, .slice A4 x.f4.length c4], .pointer (some ⟨g, 0, none⟩)] w fun r W' => r = .returned (.bool (!(elemB k x))) ∧ Below w.heap.size w W' := by
  have hlg : g < w.heap.size := World.block_lt_of_cell? w _ hg
  have HG := Aside0.mk hg
  have hcall := fun W hb => hE x A2 A4 c2 c4 W hx hc2 (Kd.C_below h2 hb) hc4 (Kd.C_below h4 hb)
  obtain ⟨bb, hbb⟩ : ∃ b, elemB k x = b := ⟨_, rfl⟩
  rw [hbb] at hcall ⊢
  obtain ⟨f0, f1, f2, f3, f4⟩ := x
  simp only at hcall hc2 hc4 ⊢
  obtain ⟨n2, hn2⟩ : ∃ n, f2.length = n := ⟨_, rfl⟩
  obtain ⟨n4, hn4⟩ : ∃ n, f4.length = n := ⟨_, rfl⟩
  rw [hn2] at hcall hc2 ⊢
  rw [hn4] at hcall hc4 ⊢
  have HC := Aside0.mk hcall
  clear hg hcall h2 h4 hx hbb hn2 hn4 hE
  have hu25 := Try.underlying25
  go_enter Try.func29, Try.ntmps29
  go_upto_region 1 with (first
    | ((with_reducible refine gate_dst (N := 2) rfl ?_); refine box_event ?hg (N := 2) ?hd (cs := #[.string f0, .string f1, .slice A2 n2 c2, .string f3, .slice A4 n4 c4]) (t := 25) ?hr ?_; (case hd => rfl); (case hg => rfl); (case hr => first | (go_simp; done) | (go_simp; rfl)); intro gb hg w1 hbox hb; have HBX := Aside0.mk hbox; have HB1 := Aside0.mk hb; clear hg hb hbox)
    | fail)
  have hcz0 : w1.cell? ⟨gb, 0, none⟩ = some (.string f0) := (blk_cell HBX.out 0).trans rfl
  have hcz1 : w1.cell? ⟨gb, 1, none⟩ = some (.string f1) := (blk_cell HBX.out 1).trans rfl
  have hcz2 : w1.cell? ⟨gb, 2, none⟩ = some (.slice A2 n2 c2) := (blk_cell HBX.out 2).trans rfl
  have hcz3 : w1.cell? ⟨gb, 3, none⟩ = some (.string f3) := (blk_cell HBX.out 3).trans rfl
  have hcz4 : w1.cell? ⟨gb, 4, none⟩ = some (.slice A4 n4 c4) := (blk_cell HBX.out 4).trans rfl
  have hcg : w1.cell? ⟨g, 0, none⟩ = some (.int .i64 ((k : Int) + 1)) := (HB1.out.cell hlg).trans HG.out
  go_wp2_with (go_at_call 13; refine ((HC.out _ HB1.out).mono ?_); rintro e w2 ⟨rfl, hb2⟩)
  go_ret
  exact ⟨rfl, below_step HB1.out hb2⟩
set_option maxRecDepth 100000 in
set_option maxHeartbeats 1000000 in
theorem findBad_calls (q : Nat) (hq : q ≤ 1000) (hE : IsElemAt q) (g : Nat) (A : Option Addr) (c : Nat) (l : List S25) (w : World) (hr : Kd.C k25 w A l.length l) (hl : l.length ≤ 100000000) (hok : ∀ x ∈ l, eOk q x) (hg : w.cell? ⟨g, 0, none⟩ = some (.int .i64 ((q : Int) + 1))) :
    Calls Try.prog 30 #[.slice A l.length c, .func (.func 29) #[] #[.pointer (some ⟨g, 0, none⟩)]] w fun e w' => e = .returned (.int .i64 (elIx l (fun x => !(elemB q x)))) ∧ Below w.heap.size w w' := by
  have HG := Aside0.mk hg
  have HR := Aside0.mk hr
  have HOK := Aside0.mk hok
  have HE : Aside0 (IsElemAt q) := ⟨hE⟩
  obtain ⟨p, hp⟩ : ∃ p : S25 → Bool, (fun x => !(elemB q x)) = p := ⟨_, rfl⟩
  rw [hp]
  have HPP := Aside0.mk hp
  obtain ⟨n, hn⟩ : ∃ n, l.length = n := ⟨_, rfl⟩
  have HN := Aside0.mk hn
  rw [hn] at hl ⊢
  clear hg hr hn hp hok hE
  go_enter Try.func30, Try.ntmps30
  go_wp2
  go_loopg [8] (n + 1) (fun gk i wr => ∃ k : Nat, n - k < gk ∧ k ≤ n ∧ i = .int .i64 k ∧ Aside0 ((∀ j, (hj : j < k) → (hl : j < l.length) → p (l[j]) = false) ∧ Below w.heap.size w wr))
  case atStart => exact ⟨0, by omega, Nat.zero_le _, rfl, ⟨fun j hj => absurd hj (Nat.not_lt_zero j), Below.refl _ _⟩⟩
  case round =>
    obtain ⟨k, hgk, hk, rfl, HH⟩ := hrel
    by_cases hlt : k < n
    · have hkl : k < l.length := by rw [HN.out]; exact hlt
      have hd0 : decide ((k : Int) < (n : Int)) = true := decide_eq_true (by omega)
      obtain ⟨ad, B2, d2, B4, d4, e4, hx0, hx1, hx2, hx3, hx4, hl2, hg2, hl4, hg4⟩ := at_T25 HR.out (k : Int) (by omega) (by have := HN.out; omega)
      obtain ⟨x, hx⟩ : ∃ x, rd_T25 l (k : Int) = x := ⟨_, rfl⟩
      rw [hx, Int.toNat_natCast] at hx0 hx1 hx2 hx3 hx4
      rw [hx] at hl2 hg2 hl4 hg4
      cases e4
      replace hx0 := (HH.out.2.cell (World.block_lt_of_cell? w _ hx0)).trans hx0
      replace hx1 := (HH.out.2.cell (World.block_lt_of_cell? w _ hx1)).trans hx1
      replace hx2 := (HH.out.2.cell (World.block_lt_of_cell? w _ hx2)).trans hx2
      replace hx3 := (HH.out.2.cell (World.block_lt_of_cell? w _ hx3)).trans hx3
      replace hx4 := (HH.out.2.cell (World.block_lt_of_cell? w _ hx4)).trans hx4
      have hXe : l[k] = x := by rw [← hx]; simp [rd_T25, hkl]
      have HX := Aside0.mk hXe
      have hxm : x ∈ l := by rw [← hXe]; exact List.getElem_mem hkl
      have hcg : wr.cell? ⟨g, 0, none⟩ = some (.int .i64 ((q : Int) + 1)) := (HH.out.2.cell (World.block_lt_of_cell? w _ HG.out)).trans HG.out
      have hP := notElem_calls q hq HE.out g x B2 B4 d2 d4 wr (HOK.out x hxm) hl2 (Kd.C_below hg2 HH.out.2) hl4 (Kd.C_below hg4 HH.out.2) hcg
      rw [show (!(elemB q x)) = p x from congrFun HPP.out x] at hP
      clear hXe hx hl2 hg2 hl4 hg4 hxm hcg
      obtain ⟨m2, hm2⟩ : ∃ m, x.f2.length = m := ⟨_, rfl⟩
      obtain ⟨m4, hm4⟩ : ∃ m, x.f4.length = m := ⟨_, rfl⟩
      rw [hm2] at hx2 hP
      rw [hm4] at hx4 hP
      clear hm2 hm4
      cases hb : p x with
      | true =>
        rw [hb] at hP
        have hz : elIx l p = k := by unfold elIx; rw [elIdx_at HH.out.1 hkl (by rw [HX.out]; exact hb), if_pos hkl]
        have HZ := Aside0.mk hz
        clear hz hb
        go_wp2_with (fail)
        refine hP.mono ?_
        rintro e w1 ⟨rfl, hb1⟩
        go_wp2_with (fail)
        go_ret
        rw [HZ.out]
        exact ⟨rfl, below_step HH.out.2 hb1⟩
      | false =>
        rw [hb] at hP
        have hno : ∀ j, (hj : j < k + 1) → (hl : j < l.length) → p (l[j]) = false := by
          intro j hj hl
          by_cases hjk : j < k
          · exact HH.out.1 j hjk hl
          · obtain rfl : j = k := by omega
            rw [HX.out]; exact hb
        have HNO := Aside0.mk hno
        clear hb hno
        go_wp2_with (fail)
        refine hP.mono ?_
        rintro e w1 ⟨rfl, hb1⟩
        go_wp2_with (fail)
        go_roundg (n - k)
        case measure => omega
        case rel => exact ⟨k + 1, by omega, by omega, rfl, ⟨HNO.out, below_step HH.out.2 hb1⟩⟩
    · have hd0 : decide ((k : Int) < (n : Int)) = false := decide_eq_false (by omega)
      have hz : elIx l p = -1 := by
        unfold elIx
        rw [elIdx_none (l := l) (p := p) (fun j hl => HH.out.1 j (by have := HN.out; omega) hl), if_neg (by omega)]
      have HZ := Aside0.mk hz
      clear hz
      go_wp2
      go_ret
      rw [HZ.out]
      exact ⟨rfl, HH.out.2⟩
theorem elIx_any (l : List S25) (p : S25 → Bool) : decide (elIx l p ≥ 0) = l.any p := by
  rw [Bool.eq_iff_iff, decide_eq_true_iff, List.any_eq_true]
  have h0 : (l.findIdx p < l.length) ↔ ∃ x, x ∈ l ∧ p x = true := List.findIdx_lt_length
  unfold elIx elIdx
  by_cases h : l.findIdx p < l.length
  · rw [if_pos h]
    exact ⟨fun _ => h0.mp h, fun _ => by omega⟩
  · rw [if_neg h]
    exact ⟨fun h1 => by omega, fun h1 => absurd (h0.mpr h1) h⟩
set_option maxRecDepth 100000 in
set_option maxHeartbeats 1000000 in
theorem hasBad_calls (q : Nat) (hq : q ≤ 1000) (hE : IsElemAt q) (g : Nat) (A : Option Addr) (c : Nat) (l : List S25) (w : World) (hr : Kd.C k25 w A l.length l) (hl : l.length ≤ 100000000) (hok : ∀ x ∈ l, eOk q x) (hg : w.cell? ⟨g, 0, none⟩ = some (.int .i64 ((q : Int) + 1))) :
    Calls Try.prog 28 #[.slice A l.length c, .func (.func 29) #[] #[.pointer (some ⟨g, 0, none⟩)]] w fun e w' => e = .returned (.bool (l.any (fun x => !(elemB q x)))) ∧ Below w.heap.size w w' := by
  have hF := findBad_calls q hq hE g A c l w hr hl hok hg
  rw [← elIx_any]
  generalize elIx l (fun x => !(elemB q x)) = z at *
  obtain ⟨n, hn⟩ : ∃ n, l.length = n := ⟨_, rfl⟩
  rw [hn] at hF ⊢
  clear hr hok hg hn hE
  go_enter Try.func28, Try.ntmps28
  go_wp2_with (go_at_call 30; refine (hF.mono ?_); rintro e w1 ⟨rfl, hb1⟩)
  go_ret
  exact ⟨rfl, hb1⟩
theorem isElem_zero : IsElemAt 0 := by
  intro e A2 A4 c2 c4 w _ _ _ _ _
  obtain ⟨f0, f1, f2, f3, f4⟩ := e
  simp only
  have hz : elemB 0 ⟨f0, f1, f2, f3, f4⟩ = false := rfl
  rw [hz]
  clear hz
  obtain ⟨n2, hn2⟩ : ∃ n, f2.length = n := ⟨_, rfl⟩
  obtain ⟨n4, hn4⟩ : ∃ n, f4.length = n := ⟨_, rfl⟩
  rw [hn2, hn4]
  clear hn2 hn4
  have hu25 := Try.underlying25
  go_enter Try.func13, Try.ntmps13
  go_wp2_with (first
    | ((with_reducible refine gate_dst (N := 2) rfl ?_); refine box_event ?hg (N := 2) ?hd (cs := #[.string f0, .string f1, .slice A2 n2 c2, .string f3, .slice A4 n4 c4]) (t := 25) ?hr ?_; (case hd => rfl); (case hg => rfl); (case hr => first | (go_simp; done) | (go_simp; rfl)); intro gb hg w1 hbox hb; have HBX := Aside0.mk hbox; have HB1 := Aside0.mk hb; clear hg hb hbox)
    | fail)
  go_ret
  exact ⟨rfl, below_step HB1.out ((Below.refl _ _).alloc (Nat.le_refl _) _)⟩
set_option maxRecDepth 100000 in
set_option maxHeartbeats 2000000 in
theorem isElem_succ (k : Nat) (hk : k ≤ 1000) (hE : IsElemAt k) : IsElemAt (k + 1) := by
  intro e A2 A4 c2 c4 w hok hc2 h2 hc4 h4
  obtain ⟨f0, f1, f2, f3, f4⟩ := e
  simp only at hc2 h2 hc4 h4 ⊢
  obtain ⟨⟨s0, s1, s3, l2, l4⟩, hat, hkids⟩ := hok
  simp only at s0 s1 s3 l2 l4 hat hkids
  obtain ⟨K0, hK0⟩ := isText_f f0 (by omega)
  obtain ⟨K3, hK3⟩ := isText_f f3 (by omega)
  have kN := fun W => tag_isName.calls (f1.size + 1) f1 _ W (isName_f f1 (by omega) _ (by omega))
  have kT0 := fun W => tag_isText.calls K0 f0 _ W hK0
  have kT3 := fun W => tag_isText.calls K3 f3 _ W hK3
  have kA := fun W hb => isAttrs_calls f2 A2 c2 W (Kd.C_below h2 hb) l2 hat (fun x hx => isText_f x.f1 (by have := (hat x hx).2; omega))
  have kB := fun g W hb hg => hasBad_calls k hk hE g A4 c4 f4 W (Kd.C_below h4 hb) l4 hkids hg
  have hz : elemB (k + 1) ⟨f0, f1, f2, f3, f4⟩ = (nameB f1 && !(f0.toList == []) && decide (f0.size ≤ 256) && textB f0 && textB f3 && attrsB f2 && f4.all (elemB k)) := rfl
  rw [hz]
  have hall : f4.all (elemB k) = !(f4.any (fun x => !(elemB k x))) := by
    rw [List.all_eq_not_any_not]
  rw [hall]
  obtain ⟨n2, hn2⟩ : ∃ n, f2.length = n := ⟨_, rfl⟩
  obtain ⟨n4, hn4⟩ : ∃ n, f4.length = n := ⟨_, rfl⟩
  rw [hn2] at kA ⊢
  rw [hn4] at kB ⊢
  obtain ⟨vn, hvn⟩ : ∃ v, nameB f1 = v := ⟨_, rfl⟩
  obtain ⟨ve, hve⟩ : ∃ v, (f0.toList == []) = v := ⟨_, rfl⟩
  obtain ⟨v0, hv0⟩ : ∃ v, textB f0 = v := ⟨_, rfl⟩
  obtain ⟨v3, hv3⟩ : ∃ v, textB f3 = v := ⟨_, rfl⟩
  obtain ⟨va, hva⟩ : ∃ v, attrsB f2 = v := ⟨_, rfl⟩
  obtain ⟨vs, hvs⟩ : ∃ v, decide (f0.size ≤ 256) = v := ⟨_, rfl⟩
  have HVS := Aside0.mk hvs
  obtain ⟨vb, hvb⟩ : ∃ v, (f4.any (fun x => !(elemB k x))) = v := ⟨_, rfl⟩
  rw [hvn] at kN
  rw [hv0] at kT0
  rw [hv3] at kT3
  rw [hva] at kA
  rw [hvb] at kB
  rw [hvn, hve, hv0, hv3, hva, hvb, hvs]
  clear hvs
  have KA := Aside0.mk kA
  have KB := Aside0.mk kB
  clear hz hall hn2 hn4 hvn hv0 hv3 hva hvb kA kB h2 h4 hat hkids hK0 hK3 hE s1 s3 l2 l4
  have hu25 := Try.underlying25
  have hkk : ((k + 1 : Nat) : Int) = (k : Int) + 1 := by omega
  rw [hkk]
  have d0 : ((k : Int) + 1 == 0) = false := by simp; omega
  clear hkk
  go_enter Try.func13, Try.ntmps13
  go_upto_region 1 with (first
    | ((with_reducible refine gate_dst (N := 2) rfl ?_); refine box_event ?hg (N := 2) ?hd (cs := #[.string f0, .string f1, .slice A2 n2 c2, .string f3, .slice A4 n4 c4]) (t := 25) ?hr ?_; (case hd => rfl); (case hg => rfl); (case hr => first | (go_simp; done) | (go_simp; rfl)); intro gb hg w1 hbox hb; have HBX := Aside0.mk hbox; have HB1 := Aside0.mk hb; clear hg hb hbox)
    | fail)
  obtain ⟨w2, hw2⟩ : ∃ w2, w1.alloc (Obj.cells #[Value.int .i64 ((k : Int) + 1)] 3) = w2 := ⟨_, rfl⟩
  rw [hw2]
  obtain ⟨g3, hg3⟩ : ∃ g, w1.heap.size = g := ⟨_, rfl⟩
  have hB2 : Below w1.heap.size w1 w2 := by rw [← hw2]; exact (Below.refl _ _).alloc (Nat.le_refl _) _
  have hI2 : w2.heap[g3]? = some (.cells #[.int .i64 ((k : Int) + 1)] 3 (0, 0)) := by rw [← hw2, ← hg3]; exact blk_new _ _
  have hbx2 := blk_below HBX.out hB2
  rw [hg3]
  have HB2 := Aside0.mk (below_step HB1.out hB2)
  have HI2 := Aside0.mk hI2
  have HBX2 := Aside0.mk hbx2
  clear hw2 hg3 hB2 hI2 hbx2 HBX HB1
  have hz0 : w2.cell? ⟨gb, 0, none⟩ = some (.string f0) := (blk_cell HBX2.out 0).trans rfl
  have hz1 : w2.cell? ⟨gb, 1, none⟩ = some (.string f1) := (blk_cell HBX2.out 1).trans rfl
  have hz2 : w2.cell? ⟨gb, 2, none⟩ = some (.slice A2 n2 c2) := (blk_cell HBX2.out 2).trans rfl
  have hz3 : w2.cell? ⟨gb, 3, none⟩ = some (.string f3) := (blk_cell HBX2.out 3).trans rfl
  have hz4 : w2.cell? ⟨gb, 4, none⟩ = some (.slice A4 n4 c4) := (blk_cell HBX2.out 4).trans rfl
  have hy3 : w2.cell? ⟨g3, 0, none⟩ = some (.int .i64 ((k : Int) + 1)) := (blk_cell HI2.out 0).trans rfl
  cases vn with
  | false =>
    go_wp2_with (first | (go_at_call 25; refine (kN _).mono ?_; rintro e w' ⟨rfl, ⟨nd0, rfl⟩⟩))
    go_ret
    exact ⟨by simp, pw_below_drewN HB2.out nd0⟩
  | true =>
    cases ve with
    | true =>
      have e0 : f0.toList = [] := by simpa using hve
      go_wp2_with (first | (go_at_call 25; refine (kN _).mono ?_; rintro e w' ⟨rfl, ⟨nd0, rfl⟩⟩))
      go_ret
      exact ⟨by simp, pw_below_drewN HB2.out nd0⟩
    | false =>
      have e0 : ¬ f0.toList = [] := by simpa using hve
      by_cases hbig : f0.size ≤ 256
      case neg =>
        have db : decide ((f0.size : Int) > 256) = true := decide_eq_true (by omega)
        have db2 : decide (256 < f0.size) = true := decide_eq_true (by omega)
        obtain rfl : vs = false := by rw [← HVS.out]; exact decide_eq_false hbig
        go_wp2_with (first | (go_at_call 25; refine (kN _).mono ?_; rintro e w' ⟨rfl, ⟨nd0, rfl⟩⟩))
        go_ret
        exact ⟨by simp, pw_below_drewN HB2.out nd0⟩
      case pos =>
        have db : decide ((f0.size : Int) > 256) = false := decide_eq_false (by omega)
        have db2 : decide (256 < f0.size) = false := decide_eq_false (by omega)
        obtain rfl : vs = true := by rw [← HVS.out]; exact decide_eq_true hbig
        cases v0 with
        | false =>
          go_wp2_with (first | (go_at_call 25; refine (kN _).mono ?_; rintro e w' ⟨rfl, ⟨nd0, rfl⟩⟩) | (go_at_call 26; refine (kT0 _).mono ?_; rintro e w3 ⟨rfl, hb3⟩; have HB3 := Aside0.mk (below_step (pw_below_drewN HB2.out nd0) hb3); have HI3 := Aside0.mk (blk_below (show (w2.drewN nd0).heap[g3]? = some _ from HI2.out) hb3); have HBX3 := Aside0.mk (blk_below (show (w2.drewN nd0).heap[gb]? = some _ from HBX2.out) hb3); have q33 : w3.cell? ⟨gb, 3, none⟩ = some (.string f3) := (blk_cell HBX3.out 3).trans rfl; have q32 : w3.cell? ⟨gb, 2, none⟩ = some (.slice A2 n2 c2) := (blk_cell HBX3.out 2).trans rfl; have q34 : w3.cell? ⟨gb, 4, none⟩ = some (.slice A4 n4 c4) := (blk_cell HBX3.out 4).trans rfl; have q3i : w3.cell? ⟨g3, 0, none⟩ = some (.int .i64 ((k : Int) + 1)) := (blk_cell HI3.out 0).trans rfl; clear hb3))
          go_ret
          exact ⟨by simp, HB3.out⟩
        | true =>
          cases v3 with
          | false =>
            go_wp2_with (first | (go_at_call 25; refine (kN _).mono ?_; rintro e w' ⟨rfl, ⟨nd0, rfl⟩⟩) | (go_at_call 26; refine (kT0 _).mono ?_; rintro e w3 ⟨rfl, hb3⟩; have HB3 := Aside0.mk (below_step (pw_below_drewN HB2.out nd0) hb3); have HI3 := Aside0.mk (blk_below (show (w2.drewN nd0).heap[g3]? = some _ from HI2.out) hb3); have HBX3 := Aside0.mk (blk_below (show (w2.drewN nd0).heap[gb]? = some _ from HBX2.out) hb3); have q33 : w3.cell? ⟨gb, 3, none⟩ = some (.string f3) := (blk_cell HBX3.out 3).trans rfl; have q32 : w3.cell? ⟨gb, 2, none⟩ = some (.slice A2 n2 c2) := (blk_cell HBX3.out 2).trans rfl; have q34 : w3.cell? ⟨gb, 4, none⟩ = some (.slice A4 n4 c4) := (blk_cell HBX3.out 4).trans rfl; have q3i : w3.cell? ⟨g3, 0, none⟩ = some (.int .i64 ((k : Int) + 1)) := (blk_cell HI3.out 0).trans rfl; clear hb3) | (go_at_call 26; refine (kT3 _).mono ?_; rintro e w4 ⟨rfl, hb4⟩; have HB4 := Aside0.mk (below_step HB3.out hb4); have HI4 := Aside0.mk (blk_below (show (w3).heap[g3]? = some _ from HI3.out) hb4); have HBX4 := Aside0.mk (blk_below (show (w3).heap[gb]? = some _ from HBX3.out) hb4); have q42 : w4.cell? ⟨gb, 2, none⟩ = some (.slice A2 n2 c2) := (blk_cell HBX4.out 2).trans rfl; have q44 : w4.cell? ⟨gb, 4, none⟩ = some (.slice A4 n4 c4) := (blk_cell HBX4.out 4).trans rfl; have q4i : w4.cell? ⟨g3, 0, none⟩ = some (.int .i64 ((k : Int) + 1)) := (blk_cell HI4.out 0).trans rfl; clear hb4))
            go_ret
            exact ⟨by simp, HB4.out⟩
          | true =>
            cases va with
            | false =>
              go_wp2_with (first | (go_at_call 25; refine (kN _).mono ?_; rintro e w' ⟨rfl, ⟨nd0, rfl⟩⟩) | (go_at_call 26; refine (kT0 _).mono ?_; rintro e w3 ⟨rfl, hb3⟩; have HB3 := Aside0.mk (below_step (pw_below_drewN HB2.out nd0) hb3); have HI3 := Aside0.mk (blk_below (show (w2.drewN nd0).heap[g3]? = some _ from HI2.out) hb3); have HBX3 := Aside0.mk (blk_below (show (w2.drewN nd0).heap[gb]? = some _ from HBX2.out) hb3); have q33 : w3.cell? ⟨gb, 3, none⟩ = some (.string f3) := (blk_cell HBX3.out 3).trans rfl; have q32 : w3.cell? ⟨gb, 2, none⟩ = some (.slice A2 n2 c2) := (blk_cell HBX3.out 2).trans rfl; have q34 : w3.cell? ⟨gb, 4, none⟩ = some (.slice A4 n4 c4) := (blk_cell HBX3.out 4).trans rfl; have q3i : w3.cell? ⟨g3, 0, none⟩ = some (.int .i64 ((k : Int) + 1)) := (blk_cell HI3.out 0).trans rfl; clear hb3) | (go_at_call 26; refine (kT3 _).mono ?_; rintro e w4 ⟨rfl, hb4⟩; have HB4 := Aside0.mk (below_step HB3.out hb4); have HI4 := Aside0.mk (blk_below (show (w3).heap[g3]? = some _ from HI3.out) hb4); have HBX4 := Aside0.mk (blk_below (show (w3).heap[gb]? = some _ from HBX3.out) hb4); have q42 : w4.cell? ⟨gb, 2, none⟩ = some (.slice A2 n2 c2) := (blk_cell HBX4.out 2).trans rfl; have q44 : w4.cell? ⟨gb, 4, none⟩ = some (.slice A4 n4 c4) := (blk_cell HBX4.out 4).trans rfl; have q4i : w4.cell? ⟨g3, 0, none⟩ = some (.int .i64 ((k : Int) + 1)) := (blk_cell HI4.out 0).trans rfl; clear hb4) | (go_at_call 27; refine (KA.out _ HB4.out).mono ?_; rintro e w5 ⟨rfl, hb5⟩; have HB5 := Aside0.mk (below_step HB4.out hb5); have HI5 := Aside0.mk (blk_below (show (w4).heap[g3]? = some _ from HI4.out) hb5); have HBX5 := Aside0.mk (blk_below (show (w4).heap[gb]? = some _ from HBX4.out) hb5); have q54 : w5.cell? ⟨gb, 4, none⟩ = some (.slice A4 n4 c4) := (blk_cell HBX5.out 4).trans rfl; have q5i : w5.cell? ⟨g3, 0, none⟩ = some (.int .i64 ((k : Int) + 1)) := (blk_cell HI5.out 0).trans rfl; clear hb5))
              go_ret
              exact ⟨by simp, HB5.out⟩
            | true =>
              go_wp2_with (first | (go_at_call 25; refine (kN _).mono ?_; rintro e w' ⟨rfl, ⟨nd0, rfl⟩⟩) | (go_at_call 26; refine (kT0 _).mono ?_; rintro e w3 ⟨rfl, hb3⟩; have HB3 := Aside0.mk (below_step (pw_below_drewN HB2.out nd0) hb3); have HI3 := Aside0.mk (blk_below (show (w2.drewN nd0).heap[g3]? = some _ from HI2.out) hb3); have HBX3 := Aside0.mk (blk_below (show (w2.drewN nd0).heap[gb]? = some _ from HBX2.out) hb3); have q33 : w3.cell? ⟨gb, 3, none⟩ = some (.string f3) := (blk_cell HBX3.out 3).trans rfl; have q32 : w3.cell? ⟨gb, 2, none⟩ = some (.slice A2 n2 c2) := (blk_cell HBX3.out 2).trans rfl; have q34 : w3.cell? ⟨gb, 4, none⟩ = some (.slice A4 n4 c4) := (blk_cell HBX3.out 4).trans rfl; have q3i : w3.cell? ⟨g3, 0, none⟩ = some (.int .i64 ((k : Int) + 1)) := (blk_cell HI3.out 0).trans rfl; clear hb3) | (go_at_call 26; refine (kT3 _).mono ?_; rintro e w4 ⟨rfl, hb4⟩; have HB4 := Aside0.mk (below_step HB3.out hb4); have HI4 := Aside0.mk (blk_below (show (w3).heap[g3]? = some _ from HI3.out) hb4); have HBX4 := Aside0.mk (blk_below (show (w3).heap[gb]? = some _ from HBX3.out) hb4); have q42 : w4.cell? ⟨gb, 2, none⟩ = some (.slice A2 n2 c2) := (blk_cell HBX4.out 2).trans rfl; have q44 : w4.cell? ⟨gb, 4, none⟩ = some (.slice A4 n4 c4) := (blk_cell HBX4.out 4).trans rfl; have q4i : w4.cell? ⟨g3, 0, none⟩ = some (.int .i64 ((k : Int) + 1)) := (blk_cell HI4.out 0).trans rfl; clear hb4) | (go_at_call 27; refine (KA.out _ HB4.out).mono ?_; rintro e w5 ⟨rfl, hb5⟩; have HB5 := Aside0.mk (below_step HB4.out hb5); have HI5 := Aside0.mk (blk_below (show (w4).heap[g3]? = some _ from HI4.out) hb5); have HBX5 := Aside0.mk (blk_below (show (w4).heap[gb]? = some _ from HBX4.out) hb5); have q54 : w5.cell? ⟨gb, 4, none⟩ = some (.slice A4 n4 c4) := (blk_cell HBX5.out 4).trans rfl; have q5i : w5.cell? ⟨g3, 0, none⟩ = some (.int .i64 ((k : Int) + 1)) := (blk_cell HI5.out 0).trans rfl; clear hb5) | (go_at_call 28; refine (KB.out g3 _ HB5.out q5i).mono ?_; rintro e w6 ⟨rfl, hb6⟩))
              go_ret
              exact ⟨by simp, below_step HB5.out hb6⟩
theorem isElem_all : ∀ k : Nat, k ≤ 1000 → IsElemAt k
  | 0, _ => isElem_zero
  | k + 1, h => isElem_succ k (by omega) (isElem_all k (by omega))
theorem elemB_dOk : ∀ (k : Nat) (e : S25), elemB k e = true → dOk k e
  | 0, _, h => by cases h
  | k + 1, e, h => by
    simp only [elemB, Bool.and_eq_true, List.all_eq_true] at h
    exact fun x hx => elemB_dOk k x (h.2 x hx)
/-- what Check answers -/
def checkI (e : S25) : Int := if elemB 16 e = true then (if (putL 16 e ⟨#[]⟩).length ≤ 16384 then 0 else 50) else 50
set_option maxRecDepth 100000 in
set_option maxHeartbeats 1000000 in
theorem check_calls (e : S25) (A2 A4 : Option Addr) (c2 c4 : Nat) (w : World) (hok : eOk 16 e) (hc2 : e.f2.length ≤ c2) (h2 : Kd.C k51 w A2 e.f2.length e.f2) (hc4 : e.f4.length ≤ c4) (h4 : Kd.C k25 w A4 e.f4.length e.f4) (hl : elemB 16 e = true → (putL 16 e ⟨#[]⟩).length ≤ 100000000) :
    Calls Try.prog 7 #[.agg #[.string e.f0, .string e.f1, .slice A2 e.f2.length c2, .string e.f3, .slice A4 e.f4.length c4]] w fun r W' => r = .returned (.int .i64 (checkI e)) ∧ Below w.heap.size w W' := by
  have kE := fun W hb => isElem_all 16 (by omega) e A2 A4 c2 c4 W hok hc2 (Kd.C_below h2 hb) hc4 (Kd.C_below h4 hb)
  have kP := fun W hb (h : elemB 16 e = true) => put_calls 16 e ⟨#[]⟩ A2 A4 c2 c4 W (elemB_dOk 16 e h) hc2 (Kd.C_below h2 hb) hc4 (Kd.C_below h4 hb) (hl h)
  have hz : checkI e = if elemB 16 e = true then (if (putL 16 e ⟨#[]⟩).length ≤ 16384 then 0 else 50) else 50 := rfl
  rw [hz]
  clear hz h2 h4 hok
  obtain ⟨P, hP⟩ : ∃ P, putL 16 e ⟨#[]⟩ = P := ⟨_, rfl⟩
  obtain ⟨v, hv⟩ : ∃ v, elemB 16 e = v := ⟨_, rfl⟩
  rw [hP] at kP hl ⊢
  rw [hv] at kE kP hl ⊢
  clear hP hv
  obtain ⟨R, hR⟩ : ∃ R : Int, (if v = true then (if P.length ≤ 16384 then 0 else 50) else 50) = R := ⟨_, rfl⟩
  have HR := Aside0.mk hR
  rw [hR]
  clear hR
  obtain ⟨f0, f1, f2, f3, f4⟩ := e
  simp only at kE kP hc2 hc4 ⊢
  obtain ⟨n2, hn2⟩ : ∃ n, f2.length = n := ⟨_, rfl⟩
  obtain ⟨n4, hn4⟩ : ∃ n, f4.length = n := ⟨_, rfl⟩
  rw [hn2] at kE kP hc2 ⊢
  rw [hn4] at kE kP hc4 ⊢
  have KE := Aside0.mk kE
  have KP := Aside0.mk kP
  clear hn2 hn4 kE kP
  have hu25 := Try.underlying25
  go_enter Try.func7, Try.ntmps7
  go_upto_region 1 with (first
    | ((with_reducible refine gate_dst (N := 1) rfl ?_); refine box_event ?hg (N := 1) ?hd (cs := #[.string f0, .string f1, .slice A2 n2 c2, .string f3, .slice A4 n4 c4]) (t := 25) ?hr ?_; (case hd => rfl); (case hg => rfl); (case hr => first | (go_simp; done) | (go_simp; rfl)); intro gb hg w1 hbox hb; have HBX := Aside0.mk hbox; have HB1 := Aside0.mk hb; clear hg hb hbox)
    | fail)
  have hz0 : w1.cell? ⟨gb, 0, none⟩ = some (.string f0) := (blk_cell HBX.out 0).trans rfl
  have hz1 : w1.cell? ⟨gb, 1, none⟩ = some (.string f1) := (blk_cell HBX.out 1).trans rfl
  have hz2 : w1.cell? ⟨gb, 2, none⟩ = some (.slice A2 n2 c2) := (blk_cell HBX.out 2).trans rfl
  have hz3 : w1.cell? ⟨gb, 3, none⟩ = some (.string f3) := (blk_cell HBX.out 3).trans rfl
  have hz4 : w1.cell? ⟨gb, 4, none⟩ = some (.slice A4 n4 c4) := (blk_cell HBX.out 4).trans rfl
  cases v with
  | false =>
    have hr0 : R = 50 := by rw [← HR.out]; rfl
    subst hr0
    go_wp2_with (first
      | (go_at_call 13; refine ((KE.out _ HB1.out).mono ?_); rintro e w2 ⟨rfl, hb2⟩))
    go_ret
    exact ⟨rfl, below_step HB1.out hb2⟩
  | true =>
    have hlen := hl rfl
    have hsz : (⟨P.toArray⟩ : ByteArray).size = P.length := by simp [ByteArray.size]
    have HSZ := Aside0.mk hsz
    by_cases hle : P.length ≤ 16384
    case pos =>
      have hs2 : (⟨P.toArray⟩ : ByteArray).size ≤ 16384 := by omega
      have hr0 : R = 0 := by rw [← HR.out, if_pos rfl, if_pos hle]
      subst hr0
      generalize (⟨P.toArray⟩ : ByteArray) = S at *
      clear hsz hl hle hlen
      have dA : decide ((S.size : Int) > 16384) = false := by simp; omega
      have dB : decide (16384 < S.size) = false := by simp; omega
      go_wp2_with (first
        | (go_at_call 13; refine ((KE.out _ HB1.out).mono ?_); rintro e w2 ⟨rfl, hb2⟩; have HBX2 := Aside0.mk (blk_below HBX.out hb2); have HB2 := Aside0.mk (below_step HB1.out hb2); have q0 : w2.cell? ⟨gb, 0, none⟩ = some (.string f0) := (blk_cell HBX2.out 0).trans rfl; have q1 : w2.cell? ⟨gb, 1, none⟩ = some (.string f1) := (blk_cell HBX2.out 1).trans rfl; have q2 : w2.cell? ⟨gb, 2, none⟩ = some (.slice A2 n2 c2) := (blk_cell HBX2.out 2).trans rfl; have q3 : w2.cell? ⟨gb, 3, none⟩ = some (.string f3) := (blk_cell HBX2.out 3).trans rfl; have q4 : w2.cell? ⟨gb, 4, none⟩ = some (.slice A4 n4 c4) := (blk_cell HBX2.out 4).trans rfl; clear hb2)
        | (go_at_call 9; refine ((KP.out _ HB2.out True.intro).mono ?_); rintro e w3 ⟨rfl, hb3⟩))
      go_ret
      exact ⟨rfl, below_step HB2.out hb3⟩
    case neg =>
      have hs2 : 16384 < (⟨P.toArray⟩ : ByteArray).size := by omega
      have hs3 : (⟨P.toArray⟩ : ByteArray).size ≤ 100000000 := by omega
      have hr0 : R = 50 := by rw [← HR.out, if_pos rfl, if_neg hle]
      subst hr0
      generalize (⟨P.toArray⟩ : ByteArray) = S at *
      clear hsz hl hle hlen
      have dA : decide ((S.size : Int) > 16384) = true := by simp; omega
      have dB : decide (16384 < S.size) = true := by simp; omega
      go_wp2_with (first
        | (go_at_call 13; refine ((KE.out _ HB1.out).mono ?_); rintro e w2 ⟨rfl, hb2⟩; have HBX2 := Aside0.mk (blk_below HBX.out hb2); have HB2 := Aside0.mk (below_step HB1.out hb2); have q0 : w2.cell? ⟨gb, 0, none⟩ = some (.string f0) := (blk_cell HBX2.out 0).trans rfl; have q1 : w2.cell? ⟨gb, 1, none⟩ = some (.string f1) := (blk_cell HBX2.out 1).trans rfl; have q2 : w2.cell? ⟨gb, 2, none⟩ = some (.slice A2 n2 c2) := (blk_cell HBX2.out 2).trans rfl; have q3 : w2.cell? ⟨gb, 3, none⟩ = some (.string f3) := (blk_cell HBX2.out 3).trans rfl; have q4 : w2.cell? ⟨gb, 4, none⟩ = some (.slice A4 n4 c4) := (blk_cell HBX2.out 4).trans rfl; clear hb2)
        | (go_at_call 9; refine ((KP.out _ HB2.out True.intro).mono ?_); rintro e w3 ⟨rfl, hb3⟩))
      go_ret
      exact ⟨rfl, below_step HB2.out hb3⟩
abbrev SameAt (k : Nat) : Prop := ∀ (a b : S25) (A2 A4 B2 B4 : Option Addr) (c2 c4 d2 d4 : Nat) (W : World), dOk k a → a.f2.length ≤ c2 → Kd.C k51 W A2 a.f2.length a.f2 → a.f4.length ≤ c4 → Kd.C k25 W A4 a.f4.length a.f4 →
      b.f2.length ≤ d2 → Kd.C k51 W B2 b.f2.length b.f2 → b.f4.length ≤ d4 → Kd.C k25 W B4 b.f4.length b.f4 → eOk k a →
      Calls Try.prog 10 #[.agg #[.string a.f0, .string a.f1, .slice A2 a.f2.length c2, .string a.f3, .slice A4 a.f4.length c4], .agg #[.string b.f0, .string b.f1, .slice B2 b.f2.length d2, .string b.f3, .slice B4 b.f4.length d4]] W
        fun r W' => r = .returned (.bool (sameF k a b)) ∧ Below W.heap.size W W'
set_option maxRecDepth 100000 in
set_option maxHeartbeats 2000000 in
theorem same_succ (k : Nat) (hS : SameAt k) : SameAt (k + 1) := by
  intro a b A2 A4 B2 B4 c2 c4 d2 d4 w hd hc2 h2 hc4 h4 hd2 g2 hd4 g4 hok
  obtain ⟨f0, f1, f2, f3, f4⟩ := a
  obtain ⟨g0, g1, g2', g3, g4'⟩ := b
  simp only at hc2 h2 hc4 h4 hd2 g2 hd4 g4 ⊢
  obtain ⟨⟨_, _, _, l2, l4⟩, _, hkids⟩ := hok
  simp only at l2 l4 hkids
  have kA := fun W (hb : Below w.heap.size w W) => api_Attr.calls (f2.length + 1) A2 c2 f2 B2 d2 g2' _ W (Kd.C_below h2 hb) hc2 (Kd.C_below g2 hb) hd2 (api_Attr_f f2 g2' (by omega))
  have kK := fun W (hb : Below w.heap.size w W) => eqf_calls k hS f4 g4' A4 B4 c4 d4 W (Kd.C_below h4 hb) (Kd.C_below g4 hb) hd l4 hkids
  have hz : sameF (k + 1) ⟨f0, f1, f2, f3, f4⟩ ⟨g0, g1, g2', g3, g4'⟩ = ((f0.toList == g0.toList) && (f1.toList == g1.toList) && (f3.toList == g3.toList) && listEq attrEq f2 g2' && listEq (sameF k) f4 g4') := rfl
  rw [hz]
  obtain ⟨n2, hn2⟩ : ∃ n, f2.length = n := ⟨_, rfl⟩
  obtain ⟨n4, hn4⟩ : ∃ n, f4.length = n := ⟨_, rfl⟩
  obtain ⟨m2, hm2⟩ : ∃ n, g2'.length = n := ⟨_, rfl⟩
  obtain ⟨m4, hm4⟩ : ∃ n, g4'.length = n := ⟨_, rfl⟩
  obtain ⟨va, hva⟩ : ∃ v, listEq attrEq f2 g2' = v := ⟨_, rfl⟩
  obtain ⟨vk, hvk⟩ : ∃ v, listEq (sameF k) f4 g4' = v := ⟨_, rfl⟩
  rw [hn2, hm2, hva] at kA
  rw [hn4, hm4, hvk] at kK
  rw [hn2, hn4, hm2, hm4, hva, hvk]
  have KA := Aside0.mk kA
  have KK := Aside0.mk kK
  clear kA kK hz hn2 hn4 hm2 hm4 hva hvk h2 h4 g2 g4 hkids hS hd l2 l4 hc2 hc4 hd2 hd4
  have hu25 := Try.underlying25
  go_enter Try.func10, Try.ntmps10
  go_upto_region 1 with (first
    | ((with_reducible refine gate_dst (N := 2) rfl ?_); refine box_event ?hg (N := 2) ?hd (cs := #[.string f0, .string f1, .slice A2 n2 c2, .string f3, .slice A4 n4 c4]) (t := 25) ?hr ?_; (case hd => rfl); (case hg => rfl); (case hr => first | (go_simp; done) | (go_simp; rfl)); intro ga hg w1 hbox hb; have HBXa := Aside0.mk hbox; have HBa := Aside0.mk hb; clear hg hb hbox)
    | ((with_reducible refine gate_dst (N := 3) rfl ?_); refine box_event ?hg (N := 3) ?hd (cs := #[.string g0, .string g1, .slice B2 m2 d2, .string g3, .slice B4 m4 d4]) (t := 25) ?hr ?_; (case hd => rfl); (case hg => rfl); (case hr => first | (go_simp; done) | (go_simp; rfl)); intro gb hg w2 hbox hb; have HBXb := Aside0.mk hbox; have HBb := Aside0.mk hb; clear hg hb hbox))
  have HXA := Aside0.mk (blk_below HBXa.out HBb.out)
  have HBW := Aside0.mk (below_step HBa.out HBb.out)
  have hx0 : w2.cell? ⟨ga, 0, none⟩ = some (.string f0) := (blk_cell HXA.out 0).trans rfl
  have hx1 : w2.cell? ⟨ga, 1, none⟩ = some (.string f1) := (blk_cell HXA.out 1).trans rfl
  have hx2 : w2.cell? ⟨ga, 2, none⟩ = some (.slice A2 n2 c2) := (blk_cell HXA.out 2).trans rfl
  have hx3 : w2.cell? ⟨ga, 3, none⟩ = some (.string f3) := (blk_cell HXA.out 3).trans rfl
  have hx4 : w2.cell? ⟨ga, 4, none⟩ = some (.slice A4 n4 c4) := (blk_cell HXA.out 4).trans rfl
  have hy0 : w2.cell? ⟨gb, 0, none⟩ = some (.string g0) := (blk_cell HBXb.out 0).trans rfl
  have hy1 : w2.cell? ⟨gb, 1, none⟩ = some (.string g1) := (blk_cell HBXb.out 1).trans rfl
  have hy2 : w2.cell? ⟨gb, 2, none⟩ = some (.slice B2 m2 d2) := (blk_cell HBXb.out 2).trans rfl
  have hy3 : w2.cell? ⟨gb, 3, none⟩ = some (.string g3) := (blk_cell HBXb.out 3).trans rfl
  have hy4 : w2.cell? ⟨gb, 4, none⟩ = some (.slice B4 m4 d4) := (blk_cell HBXb.out 4).trans rfl
  cases e0 : (f0.toList == g0.toList) with
  | false =>
    go_wp2_with (fail)
    go_ret
    exact ⟨by simp, HBW.out⟩
  | true =>
    cases e1 : (f1.toList == g1.toList) with
    | false =>
      go_wp2_with (fail)
      go_ret
      exact ⟨by simp, HBW.out⟩
    | true =>
      cases e3 : (f3.toList == g3.toList) with
      | false =>
        go_wp2_with (fail)
        go_ret
        exact ⟨by simp, HBW.out⟩
      | true =>
        cases va with
        | false =>
          go_wp2_with (first | (go_at_call 21; refine ((KA.out _ HBW.out).mono ?_); rintro e w' ⟨rfl, ⟨nd, rfl⟩⟩))
          go_ret
          exact ⟨by simp, pw_below_drewN HBW.out nd⟩
        | true =>
          go_wp2_with (first | (go_at_call 21; refine ((KA.out _ HBW.out).mono ?_); rintro e w' ⟨rfl, ⟨nd, rfl⟩⟩) | (go_at_call 22; refine ((KK.out _ (pw_below_drewN HBW.out nd)).mono ?_); rintro e w4 ⟨rfl, hb4⟩))
          go_ret
          exact ⟨by simp [beq_iff_eq.1 e0, beq_iff_eq.1 e1, beq_iff_eq.1 e3], below_step (pw_below_drewN HBW.out nd) hb4⟩
theorem same_all : ∀ k : Nat, SameAt k
  | 0 => fun _ _ _ _ _ _ _ _ _ _ _ hd => hd.elim
  | k + 1 => same_succ k (same_all k)
def eOkB : Nat → S25 → Bool
  | 0, _ => true
  | k + 1, e => decide (e.f0.size ≤ 100000000 ∧ e.f1.size ≤ 100000000 ∧ e.f3.size ≤ 100000000 ∧ e.f2.length ≤ 100000000 ∧ e.f4.length ≤ 100000000) && e.f2.all (fun x => decide (x.f0.size ≤ 100000000 ∧ x.f1.size ≤ 100000000)) && e.f4.all (eOkB k)
theorem eOkB_ok : ∀ (k : Nat) (e : S25), eOkB k e = true → eOk k e
  | 0, _, _ => True.intro
  | k + 1, e, h => by
    simp only [eOkB, Bool.and_eq_true, List.all_eq_true, decide_eq_true_eq] at h
    exact ⟨h.1.1, h.1.2, fun x hx => eOkB_ok k x (h.2 x hx)⟩
def fitB (e : S25) : Bool := eOkB 16 e && decide ((putL 16 e ⟨#[]⟩).length ≤ 100000000)
theorem fitB_ok {e : S25} (h : fitB e = true) : eOk 16 e ∧ (putL 16 e ⟨#[]⟩).length ≤ 100000000 := by
  unfold fitB at h
  simp only [Bool.and_eq_true, decide_eq_true_eq] at h
  exact ⟨eOkB_ok 16 e h.1, h.2⟩
def dOkB : Nat → S25 → Bool
  | 0, _ => false
  | k + 1, e => e.f4.all (dOkB k)
theorem dOkB_ok : ∀ (k : Nat) (e : S25), dOkB k e = true → dOk k e
  | 0, _, h => by cases h
  | k + 1, e, h => by
    simp only [dOkB, List.all_eq_true] at h
    exact fun x hx => dOkB_ok k x (h x hx)

end Go.Proofs.Ytepdfpclicdpfaa.H
