import Derived.Test.YthncdeeakhilfaaHx5
import Derived.Test.YthncdeeakhilfaaGood
import Derived.Test.YthncdeeakhilfaaFlapFrame
namespace Go.Proofs.Ythncdeeakhilfaa.Pure
open Go.RowKit Go.Proofs.Ythncdeeakhilfaa.H Go.Proofs.YthncdeeakhilfaaW.PrintWords Go.Proofs.YthncdeeakhilfaaW.PrintLast Go.Proofs.YthncdeeakhilfaaW.PrintMore Go.Proofs.Ythncdeeakhilfaa.Flap Go.Proofs.Ythncdeeakhilfaa.Bytes

theorem frameB_size (ch seq : Int) (data : ByteArray) (h : Fok ch seq) (hd : data.size ≤ 8192) : (frameB ch seq data).size = 6 + data.size := by
  obtain ⟨s1, s2, z1, z2, e, _, _⟩ := frame_list ch seq data h hd
  rw [size_L, e]
  have hsz : (L data).length = data.size := rfl
  simp [hsz]
  omega
/-- frames whose numbers rise -/
def Chain : Int → List Fr → Prop
  | _, [] => True
  | q, f :: t => f.f1 = q ∧ Fok f.f0 f.f1 ∧ f.f2.size ≤ 8192 ∧ Chain (flapNext q) t
def bytesF : List Fr → List UInt8
  | [] => []
  | f :: t => L (frameB f.f0 f.f1 f.f2) ++ bytesF t
theorem next_le (n : Int) : flapNext n ≤ 65535 := by
  unfold flapNext
  split <;> omega
theorem run_chain : ∀ (fs : List Fr) (q w : Int) (out : List Fr), Chain q fs → (w = q ∨ w < 0) → ∃ w', flapRun (bytesF fs) (fresh w) out = (fresh w', out ++ fs) := by
  intro fs
  induction fs with
  | nil => intro q w out _ _; exact ⟨w, by simp [bytesF, flapRun]⟩
  | cons f t ih =>
    intro q w out hc hw
    obtain ⟨h1, h2, h3, h4⟩ := hc
    have p := frame_parse f.f0 f.f1 f.f2 h2 h3 w []
    rw [if_neg (by rcases hw with hw | hw <;> omega), List.append_nil] at p
    have hr := run_frame w (L (frameB f.f0 f.f1 f.f2)) [] (fresh w) out 0 f (Part.nil w) p
    obtain ⟨w', hi⟩ := ih (flapNext q) (flapNext f.f1) (out ++ [f]) h4 (Or.inl (by rw [h1]))
    refine ⟨w', ?_⟩
    simp only [bytesF]
    rw [flapRun_append, hr, hi]
    simp
theorem put_spec (k : Nat) (hk : 1 ≤ k) : ∀ (l : List Fr) (q : Int) (s : ByteArray) (want : List Fr), 0 ≤ q → q ≤ 65535 → s.size ≤ 40000 → want.length + l.length ≤ 60 →
    ∃ o, flapBackPut k l q s want = some o ∧ ∀ s' w', o = some (s', w') → ∃ fs, Chain q fs ∧ w' = want ++ fs ∧ L s' = L s ++ bytesF fs ∧ s'.size ≤ 40000 ∧ w'.length ≤ 60 := by
  intro l
  induction l with
  | nil =>
    intro q s want _ _ hs hl
    refine ⟨_, rfl, fun s' w' h => ?_⟩
    obtain ⟨rfl, rfl⟩ := Prod.mk.inj (Option.some.inj h)
    exact ⟨[], trivial, by simp, by simp [bytesF], hs, by simpa using hl⟩
  | cons f t ih =>
    intro q s want h0 h1 hs hl
    rw [List.length_cons] at hl
    simp only [flapBackPut]
    by_cases c : (s.size : Int) ≤ 30000
    · rw [if_pos c, Put_eq _ _ _ k hk, Option.bind_some]
      unfold putAns
      by_cases hf : Fok f.f0 q
      · rw [if_pos hf]
        by_cases hd : (f.f2.size : Int) > 8192
        · rw [if_pos hd]
          exact ⟨none, rfl, fun s' w' h => by cases h⟩
        · rw [if_neg hd]
          have hz := frameB_size f.f0 q f.f2 hf (by omega)
          dsimp only
          rw [if_pos rfl, if_pos ⟨by omega, by omega⟩]
          obtain ⟨o, ho, hsp⟩ := ih (flapNext q) (s ++ frameB f.f0 q f.f2) (want ++ [⟨f.f0, q, f.f2⟩]) (next_ge q) (next_le q) (by rw [ByteArray.size_append]; omega) (by rw [List.length_append, List.length_singleton]; omega)
          refine ⟨o, ho, fun s' w' h => ?_⟩
          obtain ⟨fs, k1, k2, k3, k4, k5⟩ := hsp s' w' h
          refine ⟨⟨f.f0, q, f.f2⟩ :: fs, ⟨rfl, hf, by show f.f2.size ≤ 8192; omega, k1⟩, by rw [k2]; simp, ?_, k4, k5⟩
          rw [k3, L_append]
          simp only [bytesF]
          rw [List.append_assoc]
      · rw [if_neg hf]
        exact ⟨none, rfl, fun s' w' h => by cases h⟩
    · rw [if_neg c]
      refine ⟨_, rfl, fun s' w' h => ?_⟩
      obtain ⟨rfl, rfl⟩ := Prod.mk.inj (Option.some.inj h)
      exact ⟨[], trivial, by simp, by simp [bytesF], hs, by omega⟩
theorem feed_spec : ∀ (cuts : List Int) (A : List UInt8) (st : FlapSt) (s : ByteArray) (got : List Fr), flapRun A flapNew [] = (st, got) →
    ∃ B, flapRun B flapNew [] = ((flapBackFeed cuts st s got).1, (flapBackFeed cuts st s got).2.2) ∧ B ++ L (flapBackFeed cuts st s got).2.1 = A ++ L s := by
  intro cuts
  induction cuts with
  | nil => intro A st s got h; exact ⟨A, h, rfl⟩
  | cons c t ih =>
    intro A st s got h
    simp only [flapBackFeed]
    have h1 : flapRun (A ++ L (s.extract 0 (flapCutAt c s))) flapNew [] = ((flapRun (L (s.extract 0 (flapCutAt c s))) st []).1, got ++ (flapRun (L (s.extract 0 (flapCutAt c s))) st []).2) := by
      rw [flapRun_append, h]
      exact flapRun_out _ st got
    obtain ⟨B, hB, hE⟩ := ih _ _ (s.extract (flapCutAt c s) s.size) _ h1
    refine ⟨B, hB, ?_⟩
    rw [hE, List.append_assoc, L_head, L_tail, List.take_append_drop]
theorem FlapBack : ∀ (a0 : List S37) (a1 : Int) (a2 : List Int), (a0.length ≤ maxLen ∧ a0.length * 32 ≤ 140737488351232 ∧ ∀ z ∈ a0, good37 z) → (Lit.int .i64 a1).wf = true → (a2.length ≤ maxLen ∧ a2.length * 8 ≤ 140737488351232 ∧ ∀ z ∈ a2, (Lit.int .i64 z).wf = true) → ∃ k, wharflaw12_FlapBack.f k a0 a1 a2 = some true := by
  intro l q cuts _ _ _
  refine ⟨100, ?_⟩
  unfold wharflaw12_FlapBack.f
  by_cases c1 : (l.length : Int) > 60
  · rw [if_pos c1]
  rw [if_neg c1]
  by_cases c2 : (cuts.length : Int) > 60
  · rw [if_pos c2]
  rw [if_neg c2]
  by_cases c3 : q < 0
  · rw [if_pos c3]
  rw [if_neg c3]
  by_cases c4 : 65535 < q
  · rw [if_pos c4]
  rw [if_neg c4]
  obtain ⟨o, ho, hsp⟩ := put_spec 100 (by omega) l q ⟨#[]⟩ [] (by omega) (by omega) (by decide) (by simp; omega)
  rw [ho, Option.bind_some]
  rcases o with _ | ⟨s, want⟩
  · rfl
  · dsimp only
    obtain ⟨fs, k1, k2, k3, k4, k5⟩ := hsp s want rfl
    rw [if_pos (by omega)]
    obtain ⟨B, hB, hE⟩ := feed_spec cuts [] flapNew s [] rfl
    generalize flapBackFeed cuts flapNew s [] = P at *
    obtain ⟨st, rest, got⟩ := P
    dsimp only at hB hE
    unfold flapBackEnd
    dsimp only
    have hall : flapRun (B ++ L rest) flapNew [] = ((flapRun (L rest) st []).1, got ++ (flapRun (L rest) st []).2) := by
      rw [flapRun_append, hB]
      exact flapRun_out _ st got
    rw [hE, List.nil_append, k3] at hall
    obtain ⟨w', hc⟩ := run_chain fs q (-1) [] k1 (Or.inr (by decide))
    have hall2 : flapRun (L (⟨#[]⟩ : ByteArray) ++ bytesF fs) flapNew [] = (fresh w', [] ++ fs) := hc
    rw [hall2] at hall
    obtain ⟨e1, e2⟩ := Prod.mk.inj hall
    rw [← e2, k2, List.nil_append]
    rw [k2, List.nil_append] at k5
    rw [same_self fs (by omega) 100 (by omega), Option.bind_some, ← e1, if_pos ⟨rfl, rfl, rfl⟩]
end Go.Proofs.Ythncdeeakhilfaa.Pure
