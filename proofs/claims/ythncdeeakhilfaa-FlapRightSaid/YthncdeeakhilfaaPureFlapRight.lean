import Derived.Test.YthncdeeakhilfaaHx8
import Derived.Test.YthncdeeakhilfaaGood
import Derived.Test.YthncdeeakhilfaaFlapFrame
namespace Go.Proofs.Ythncdeeakhilfaa.Pure
open Go.RowKit Go.Proofs.Ythncdeeakhilfaa.H Go.Proofs.YthncdeeakhilfaaW.PrintWords Go.Proofs.YthncdeeakhilfaaW.PrintLast Go.Proofs.YthncdeeakhilfaaW.PrintMore Go.Proofs.Ythncdeeakhilfaa.Flap Go.Proofs.Ythncdeeakhilfaa.Bytes

theorem frameB_size (ch seq : Int) (data : ByteArray) (h : Fok ch seq) (hd : data.size ≤ 8192) : (frameB ch seq data).size = 6 + data.size := by
  obtain ⟨s1, s2, z1, z2, e, _, _⟩ := frame_list ch seq data h hd
  rw [size_L, e]
  have hsz : (L data).length = data.size := rfl
  simp [hsz]
  omega
def bytesF : List Fr → List UInt8
  | [] => []
  | f :: t => L (frameB f.f0 f.f1 f.f2) ++ bytesF t
def ChainW : Int → List Fr → Prop
  | _, [] => True
  | w, f :: t => (0 ≤ w → f.f1 = w) ∧ Fok f.f0 f.f1 ∧ f.f2.size ≤ 8192 ∧ ChainW (flapNext f.f1) t
def wEnd : Int → List Fr → Int
  | w, [] => w
  | _, f :: t => wEnd (flapNext f.f1) t
theorem parse_sound {w : Int} {l : List UInt8} {e : Int} {f : Fr} {rest : List UInt8} (h : parse1 w l = (e, some (f, rest))) :
    l = L (frameB f.f0 f.f1 f.f2) ++ rest ∧ (0 ≤ w → f.f1 = w) ∧ Fok f.f0 f.f1 ∧ f.f2.size ≤ 8192 := by
  unfold parse1 at h
  by_cases cb : Bad l
  · rw [if_pos cb] at h; cases h
  rw [if_neg cb] at h
  by_cases c4 : l.length < 4
  · rw [if_pos c4] at h; cases h
  rw [if_neg c4] at h
  by_cases cw : 0 ≤ w ∧ two l 2 ≠ w
  · rw [if_pos cw] at h; cases h
  rw [if_neg cw] at h
  by_cases c6 : l.length < 6
  · rw [if_pos c6] at h; cases h
  rw [if_neg c6] at h
  by_cases c8 : 8192 < two l 4
  · rw [if_pos c8] at h; cases h
  rw [if_neg c8] at h
  by_cases c9 : (l.length : Int) < 6 + two l 4
  · rw [if_pos c9] at h; cases h
  rw [if_neg c9] at h
  simp only [Prod.mk.injEq, Option.some.injEq] at h
  obtain ⟨_, h1, h2⟩ := h
  have b2 := two_bound l 2 (by omega)
  have b4 := two_bound l 4 (by omega)
  have ha0 : at_ l 0 = 42 := Classical.byContradiction fun hx => cb (Or.inl ⟨by omega, hx⟩)
  have ha1 : 1 ≤ at_ l 1 ∧ at_ l 1 ≤ 5 := by
    have : ¬ (at_ l 1 < 1 ∨ 5 < at_ l 1) := fun hx => cb (Or.inr ⟨by omega, hx⟩)
    omega
  have hfsz : f.f2.size = (two l 4).toNat := by
    rw [← h1, size_L, L_mk, List.length_take, List.length_drop]
    omega
  refine ⟨?_, fun hw => ?_, ?_, by omega⟩
  · have hN2 : L (Tlv.nbytes (two l 2) 2) = (l.drop 2).take 2 := by
      have hz : (⟨((l.drop 2).take 2).toArray⟩ : ByteArray).size = 2 := by rw [size_L, L_mk, List.length_take, List.length_drop]; omega
      have := Tlv.bytes_num ⟨((l.drop 2).take 2).toArray⟩ (Or.inr (Or.inl hz))
      rw [hz, L_mk] at this
      exact congrArg L this
    have hN4 : L (Tlv.nbytes (two l 4) 2) = (l.drop 4).take 2 := by
      have hz : (⟨((l.drop 4).take 2).toArray⟩ : ByteArray).size = 2 := by rw [size_L, L_mk, List.length_take, List.length_drop]; omega
      have := Tlv.bytes_num ⟨((l.drop 4).take 2).toArray⟩ (Or.inr (Or.inl hz))
      rw [hz, L_mk] at this
      exact congrArg L this
    have hsz : (f.f2.size : Int) = two l 4 := by omega
    unfold frameB
    rw [L_append, L_append, L_append, L_nums, hsz, hN4, ← h2, ← h1]
    dsimp only
    rw [hN2, L_mk]
    have hhead : l.take 2 = [(42 : Int), at_ l 1].map fun n => UInt8.ofNat n.toNat := by
      match l, (show 2 ≤ l.length by omega) with
      | a :: b :: t, _ =>
        have e0 : (a.toNat : Int) = 42 := ha0
        have e1 : at_ (a :: b :: t) 1 = (b.toNat : Int) := rfl
        rw [e1]
        have ea : a = UInt8.ofNat (42 : Int).toNat := by rw [← e0, of_toNat]
        simp only [List.map_cons, List.map_nil, of_toNat, List.take_succ_cons, List.take_zero]
        rw [← ea]
    rw [← hhead]
    have s1 : l.take 2 ++ (l.drop 2).take 2 = l.take 4 := by rw [← List.take_add]
    have s2 : (l.drop 4).take 2 ++ (l.drop 6).take (two l 4).toNat = (l.drop 4).take (2 + (two l 4).toNat) := by
      rw [List.take_add, List.drop_drop]
    rw [s1, s2, List.append_assoc]
    have s3 : (l.drop 4).take (2 + (two l 4).toNat) ++ l.drop (6 + (two l 4).toNat) = l.drop 4 := by
      have : l.drop (6 + (two l 4).toNat) = (l.drop 4).drop (2 + (two l 4).toNat) := by rw [List.drop_drop]; congr 1; omega
      rw [this, List.take_append_drop]
    rw [s3, List.take_append_drop]
  · rw [← h1]
    exact Classical.byContradiction fun hx => cw ⟨hw, hx⟩
  · rw [← h1]
    exact ⟨ha1.1, ha1.2, b2.1, by dsimp only; omega⟩
theorem sound : ∀ (l r : List UInt8) (w : Int) (st : FlapSt) (out : List Fr), Part w r st →
    ∃ fs, (flapRun l st out).2 = out ++ fs ∧ ChainW w fs ∧ ((flapRun l st out).1.err = 0 → ∃ r', Part (wEnd w fs) r' (flapRun l st out).1 ∧ r ++ l = bytesF fs ++ r') ∧ (∃ t, r ++ l = bytesF fs ++ t) := by
  intro l
  induction l with
  | nil =>
    intro r w st out h
    exact ⟨[], by simp [flapRun], trivial, fun _ => ⟨r, h, by simp [bytesF]⟩, ⟨r, by simp [bytesF]⟩⟩
  | cons c l ih =>
    intro r w st out h
    obtain ⟨s1, s2, s3⟩ := byte_spec w r st c h
    have e0 : r ++ c :: l = r ++ [c] ++ l := by simp
    simp only [flapRun]
    rw [if_pos h.err, e0]
    rcases hp : parse1 w (r ++ [c]) with ⟨er, _ | ⟨f, rest⟩⟩
    · by_cases h0 : er = 0
      · rw [h0] at hp
        obtain ⟨s, hs, hP⟩ := s1 hp
        rw [hs, List.append_nil]
        exact ih (r ++ [c]) w s out hP
      · obtain ⟨s, hs, hse⟩ := s2 er h0 hp
        rw [hs, List.append_nil, flapRun_err l s out (by rw [hse]; exact h0)]
        exact ⟨[], by simp, trivial, fun hx => absurd (hse.symm.trans hx) h0, ⟨r ++ [c] ++ l, by simp [bytesF]⟩⟩
    · obtain ⟨hr, hs⟩ := s3 er f rest hp
      obtain ⟨p1, p2, p3, p4⟩ := parse_sound hp
      rw [hr, List.append_nil] at p1
      rw [hs]
      obtain ⟨fs, k1, k2, k3, k4⟩ := ih [] (flapNext f.f1) (fresh (flapNext f.f1)) (out ++ [f]) (Part.nil _)
      refine ⟨f :: fs, by rw [k1]; simp, ⟨p2, p3, p4, k2⟩, fun hx => ?_, ?_⟩
      · obtain ⟨r', q1, q2⟩ := k3 hx
        rw [List.nil_append] at q2
        exact ⟨r', q1, by rw [p1, q2]; simp [bytesF]⟩
      · obtain ⟨t, ht⟩ := k4
        rw [List.nil_append] at ht
        exact ⟨t, by rw [p1, ht]; simp [bytesF]⟩
def wl (last : Int) : Int := if last < 0 then -1 else flapNext last
def lastEnd : Int → List Fr → Int
  | last, [] => last
  | _, f :: t => lastEnd f.f1 t
theorem wl_end : ∀ (fs : List Fr) (w last : Int), ChainW w fs → wl last = w → wl (lastEnd last fs) = wEnd w fs := by
  intro fs
  induction fs with
  | nil => intro w last _ h; exact h
  | cons f t ih =>
    intro w last h _
    refine ih (flapNext f.f1) f.f1 h.2.2.2 ?_
    have h0 := h.2.1.2.2.1
    unfold wl
    rw [if_neg (by omega)]
theorem right_in (k : Nat) (hk : 1 ≤ k) : ∀ (fs : List Fr) (w last : Int) (front : ByteArray), ChainW w fs → wl last = w → (L front ++ bytesF fs).length ≤ 1000000 →
    ∃ q : ByteArray, flapRightIn k fs last front = some (lastEnd last fs, q) ∧ L q = L front ++ bytesF fs := by
  intro fs
  induction fs with
  | nil => intro w last front _ _ _; exact ⟨front, rfl, by simp [bytesF]⟩
  | cons f t ih =>
    intro w last front hc hw hz
    obtain ⟨h1, h2, h3, h4⟩ := hc
    have hb : L front ++ bytesF (f :: t) = L (front ++ frameB f.f0 f.f1 f.f2) ++ bytesF t := by
      simp only [bytesF]
      rw [L_append, List.append_assoc]
    have hsz := frameB_size f.f0 f.f1 f.f2 h2 h3
    rw [hb] at hz ⊢
    have hz' : front.size + (frameB f.f0 f.f1 f.f2).size ≤ 1000000 := by
      rw [List.length_append, ← size_L, ByteArray.size_append] at hz
      omega
    have hwl : wl f.f1 = flapNext f.f1 := by
      have h0 := h2.2.2.1
      unfold wl
      rw [if_neg (by omega)]
    obtain ⟨q, hq, hL⟩ := ih (flapNext f.f1) f.f1 (front ++ frameB f.f0 f.f1 f.f2) h4 hwl hz
    refine ⟨q, ?_, hL⟩
    simp only [flapRightIn]
    rw [Put_eq _ _ _ k hk, Option.bind_some]
    unfold putAns
    rw [if_pos h2, if_neg (show ¬ (f.f2.size : Int) > 8192 by omega)]
    dsimp only
    have hseq : 0 ≤ last → f.f1 = flapNext last := fun hl => by
      have : w = flapNext last := by rw [← hw]; unfold wl; rw [if_neg (by omega)]
      rw [h1 (by rw [this]; exact next_ge last), this]
    rw [if_pos ⟨rfl, hseq, hz'⟩]
    exact hq
def tot (l : List ByteArray) : Nat := (l.map ByteArray.size).sum
theorem tot_cons (b : ByteArray) (l : List ByteArray) : tot (b :: l) = b.size + tot l := by simp [tot]
theorem tot_append (a b : List ByteArray) : tot (a ++ b) = tot a + tot b := by simp [tot]
theorem small_loop (l : List ByteArray) (hg : ∀ z ∈ l, z.size ≤ 140737488351232) : ∀ (d i k : Nat), i + d = 62 → i ≤ l.length → tot (l.take i) ≤ 30000 + 140737488351232 → d < k → ∃ b, wharflaw12_small.l0 k l (tot (l.take i) : Int) (i : Int) = some b ∧ (b = true → l.length ≤ 60 ∧ tot l ≤ 30000) := by
  intro d
  induction d with
  | zero =>
    intro i k hi hl ht hk
    obtain ⟨k, rfl⟩ : ∃ m, k = m + 1 := ⟨k - 1, by omega⟩
    simp only [wharflaw12_small.l0]
    by_cases c : (i : Int) < (l.length : Int)
    · rw [if_pos c, if_neg (by omega), if_neg (by omega)]
      exact ⟨false, rfl, fun h => by cases h⟩
    · rw [if_neg c, if_neg (by omega)]
      exact ⟨false, rfl, fun h => by cases h⟩
  | succ d ih =>
    intro i k hi hl ht hk
    obtain ⟨k, rfl⟩ : ∃ m, k = m + 1 := ⟨k - 1, by omega⟩
    simp only [wharflaw12_small.l0]
    by_cases c : (i : Int) < (l.length : Int)
    · rw [if_pos c]
      by_cases c2 : (i : Int) ≤ 60
      · rw [if_pos c2]
        by_cases c3 : (tot (l.take i) : Int) ≤ 30000
        · have hlt : i < l.length := by omega
          have hr : rdOf ByteArray.empty l (i : Int) = l[i] := by simp [rdOf, List.getD_eq_getElem?_getD, hlt]
          have hz := hg l[i] (List.getElem_mem hlt)
          have hs : tot (l.take (i + 1)) = tot (l.take i) + l[i].size := by
            rw [List.take_succ_eq_append_getElem hlt, tot_append]
            rfl
          rw [if_pos c3, if_pos (by omega), hr, wrap_id ((tot (l.take i) : Int) + _) (by omega) (by omega), wrap_id ((i : Int) + 1) (by omega) (by omega)]
          have := ih (i + 1) k (by omega) (by omega) (by omega) (by omega)
          rw [hs] at this
          exact this
        · rw [if_neg c3]
          split
          · rw [decide_eq_false c3]
            exact ⟨false, rfl, fun h => by cases h⟩
          · exact ⟨false, rfl, fun h => by cases h⟩
      · rw [if_neg c2]
        rw [if_neg (by omega)]
        exact ⟨false, rfl, fun h => by cases h⟩
    · rw [if_neg c]
      have hi' : i = l.length := by omega
      have ht' : tot (l.take i) = tot l := by rw [hi', List.take_length]
      rw [ht']
      by_cases c2 : (l.length : Int) ≤ 60
      · rw [if_pos c2]
        exact ⟨_, rfl, fun h => ⟨by omega, by have := of_decide_eq_true h; omega⟩⟩
      · rw [if_neg c2]
        exact ⟨false, rfl, fun h => by cases h⟩
theorem small_some (l : List ByteArray) (hg : ∀ z ∈ l, z.size ≤ 140737488351232) (k : Nat) (hk : 63 ≤ k) : ∃ b, wharflaw12_small.f k l = some b ∧ (b = true → l.length ≤ 60 ∧ tot l ≤ 30000) :=
  small_loop l hg 62 0 k rfl (Nat.zero_le _) (by simp [tot]) (by omega)
/-- what is known between two pieces -/
def Inv (A : List UInt8) (st : FlapSt) (front : ByteArray) (last : Int) : Prop :=
  (st.err = 0 → ∃ r, Part (wl last) r st ∧ A = L front ++ r) ∧ ∃ t, A = L front ++ t
theorem right_go (k : Nat) (hk : 1 ≤ k) : ∀ (t : List ByteArray) (st : FlapSt) (all front : ByteArray) (last : Int), Inv (L all) st front last → all.size + tot t ≤ 30000 → flapRightGo k t st all front last = some true := by
  intro t
  induction t with
  | nil => intro st all front last _ _; rfl
  | cons b t ih =>
    intro st all front last hI hs
    rw [tot_cons] at hs
    have hzab : (all ++ b).size = all.size + b.size := ByteArray.size_append
    have hzA : (L (all ++ b)).length = (all ++ b).size := rfl
    simp only [flapRightGo]
    rw [if_pos ⟨by omega, by omega⟩]
    -- what is left to show, once the frames are told
    have fin : ∀ (F : FlapSt × List Fr) (last2 : Int) (front2 : ByteArray), F = flapRun (L b) st [] → flapRightIn k F.2 last front = some (last2, front2) → Inv (L (all ++ b)) F.1 front2 last2 →
        ((flapRightIn k (flapRun (L b) st []).2 last front).bind fun q => if q.2.size ≤ (all ++ b).size ∧ ((all ++ b).extract 0 q.2.size).toList = q.2.toList ∧ ((flapRun (L b) st []).1.err = 0 → flapLeft (flapRun (L b) st []).1 = ((all ++ b).size : Int) - (q.2.size : Int)) then flapRightGo k t (flapRun (L b) st []).1 (all ++ b) q.2 q.1 else none) = some true := by
      intro F last2 front2 hF hin hinv
      rw [← hF, hin, Option.bind_some]
      dsimp only
      obtain ⟨hp, t2, ht2⟩ := hinv
      have hzf : (L front2).length = front2.size := rfl
      have hle : front2.size ≤ (all ++ b).size := by
        rw [← hzA, ht2, List.length_append]
        omega
      have hleft : F.1.err = 0 → flapLeft F.1 = ((all ++ b).size : Int) - (front2.size : Int) := fun he => by
        obtain ⟨r, hP, hA⟩ := hp he
        have hlen : (all ++ b).size = front2.size + r.length := by rw [← hzA, hA, List.length_append, hzf]
        unfold flapLeft
        rw [if_pos he, hP.rd, ints_length, hlen]
        omega
      rw [if_pos ⟨hle, by rw [toList_L, toList_L, L_head, ht2, ← hzf, List.take_left], hleft⟩]
      exact ih F.1 (all ++ b) front2 last2 ⟨hp, t2, ht2⟩ (by omega)
    by_cases he : st.err = 0
    · obtain ⟨r, hP, hA⟩ := hI.1 he
      obtain ⟨fs, k1, k2, k3, k4⟩ := sound (L b) r (wl last) st [] hP
      rw [List.nil_append] at k1
      have hAB : ∀ x, r ++ L b = bytesF fs ++ x → L (all ++ b) = L front ++ bytesF fs ++ x := fun x hx => by
        rw [L_append, hA, List.append_assoc, hx, List.append_assoc]
      obtain ⟨t4, ht4⟩ := k4
      have hlen : (L front ++ bytesF fs).length ≤ 1000000 := by
        have := congrArg List.length (hAB t4 ht4)
        rw [List.length_append, hzA] at this
        omega
      obtain ⟨q, hq, hL⟩ := right_in k hk fs (wl last) last front k2 rfl hlen
      refine fin (flapRun (L b) st []) (lastEnd last fs) q rfl (by rw [k1]; exact hq) ⟨fun hx => ?_, t4, by rw [hL]; exact hAB t4 ht4⟩
      obtain ⟨r', q1, q2⟩ := k3 hx
      exact ⟨r', by rw [wl_end fs (wl last) last k2 rfl]; exact q1, by rw [hL]; exact hAB r' q2⟩
    · obtain ⟨t0, ht0⟩ := hI.2
      have hF : flapRun (L b) st [] = (st, []) := flapRun_err _ _ _ he
      refine fin (st, []) last front hF.symm rfl ⟨fun hx => absurd hx he, t0 ++ L b, by rw [L_append, ht0, List.append_assoc]⟩
theorem FlapRight : ∀ (a0 : List ByteArray), (a0.length ≤ maxLen ∧ a0.length * 16 ≤ 140737488351232 ∧ ∀ z ∈ a0, z.size ≤ 140737488351232) → ∃ k, wharflaw12_FlapRight.f k a0 = some true := by
  intro l hl
  refine ⟨100, ?_⟩
  obtain ⟨b, hb, hs⟩ := small_some l hl.2.2 100 (by omega)
  unfold wharflaw12_FlapRight.f
  rw [hb, Option.bind_some]
  cases b with
  | false => rfl
  | true =>
    obtain ⟨_, h2⟩ := hs rfl
    rw [if_pos rfl]
    exact right_go 100 (by omega) l flapNew ⟨#[]⟩ ⟨#[]⟩ (-1) ⟨fun _ => ⟨[], Part.nil (-1), rfl⟩, [], rfl⟩ (by show 0 + tot l ≤ 30000; omega)
end Go.Proofs.Ythncdeeakhilfaa.Pure
