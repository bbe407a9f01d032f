/- What is known of the structs that come in to the laws of this seat. -/
import Derived.Test.YtepdfpclicdpfaaHx0
import Derived.Test.YtepdfpclicdpfaaOpens
namespace Go.Proofs.Ytepdfpclicdpfaa.H
open Go.RowKit Go.Proofs.YtepdfpclicdpfaaW.PrintWords Go.Proofs.YtepdfpclicdpfaaW.PrintLast Go.Proofs.YtepdfpclicdpfaaW.PrintMore Go.Proofs.Ytepdfpclicdpfaa.Opens
def good51 (x : S51) : Prop := x.f0.size ≤ 140737488351232 ∧ x.f1.size ≤ 140737488351232
theorem opens51 : Opens Try.prog 51 k51 good51 := opens_imp (opens_struct (fun x : S51 => (x.f0, x.f1)) (fun a => (⟨a.1, a.2⟩ : S51)) (fun _ => rfl) Try.underlying51 (by kernel_rfl) (opensF_cons rfl (by kernel_rfl) rfl (opens_string Try.underlying9) (opensF_one rfl (by kernel_rfl) (opens_string Try.underlying9)))) (fun _ h => h)
/-! the element, nested in itself: read with less and less fuel -/
def goodN25 : Nat → S25 → Prop
  | 0, _ => True
  | k + 1, x => x.f0.size ≤ 140737488351232 ∧ x.f1.size ≤ 140737488351232 ∧ (x.f2.length ≤ maxLen ∧ x.f2.length * 32 ≤ 140737488351232 ∧ ∀ z ∈ x.f2, good51 z) ∧ x.f3.size ≤ 140737488351232 ∧ (x.f4.length ≤ maxLen ∧ x.f4.length * 96 ≤ 140737488351232 ∧ ∀ z ∈ x.f4, goodN25 k z)
def good25 (x : S25) : Prop := ∀ k, goodN25 k x
def OpensAt (N : Nat) (P : Program) (t : TypeId) {α : Type} (k : Kd α) (g : α → Prop) : Prop :=
  ∀ {H : Type} (enc : TypeId × Value → H) (W : World) (fuel : Nat) (_ : fuel ≤ N) (cs : List Value) (d : DataW H) (ps : List MemPlace),
    DataW.trod enc P W 0 (fun _ => true) true fuel t cs = some (d, ps) → (∀ n ∈ d.weights P t, n ≤ 140737488351232) → ∃ x : α, k.K W x cs ∧ g x
theorem opens_at {P : Program} {t : TypeId} {α : Type} {k : Kd α} {g : α → Prop} (h : Opens P t k g) (N : Nat) : OpensAt N P t k g := fun enc W fuel _ cs d ps h1 h2 => h enc W fuel cs d ps h1 h2
theorem opensAt_slice {N : Nat} {P : Program} {t e : TypeId} {α : Type} {k : Kd α} {g : α → Prop} {B : Nat} (hu : P.underlying t = some (.slice e)) (hc : P.cellsOf e = k.sz) (hB : P.bytesOf e = B) (h : OpensAt N P e k g) :
    OpensAt (N + 1) P t (Kd.slice e k) (fun xs => xs.length ≤ maxLen ∧ xs.length * B ≤ 140737488351232 ∧ ∀ x ∈ xs, g x) := by
  intro H enc W fuel hf cs d ps ht hw
  rcases DataW.trod_slice hu ht with ⟨rfl, _⟩ | ⟨a, len, cap, elems, rest, n, rfl, rfl, hd, _, hl, hm, hlen, hel, hsp, _⟩
  · refine ⟨[], ⟨none, 0, rfl, Nat.le_refl _, ?_⟩, by simp [maxLen], by simp, by simp⟩
    exact ⟨rfl, by simp, fun h0 => absurd h0 (by simp)⟩
  · obtain ⟨hd, _⟩ := Prod.mk.inj hd
    subst hd
    have hch : ∀ i, i < len → ∃ x : α, ∃ c, W.cells? 0 (a.add (i * P.cellsOf e)) (P.cellsOf e) = some c ∧ k.K W x c ∧ g x := by
      intro i hi
      have hi2 : i < elems.length := by omega
      have he := hel i hi
      rw [List.getElem?_eq_getElem hi2] at he
      obtain ⟨c, hcc, htr⟩ := Option.bind_eq_some_iff.1 he
      obtain ⟨x, hx, hg⟩ := h enc W n (by omega) c elems[i].1 elems[i].2 htr (fun q hq => hw q (by
        simp only [DataW.weights, hu, List.mem_cons, List.mem_append]
        exact Or.inr (Or.inl (weightsAll_mem hq (List.mem_map.2 ⟨elems[i], List.getElem_mem hi2, rfl⟩)))))
      exact ⟨x, c, hcc, hx, hg⟩
    obtain ⟨l, hll, hp⟩ := choose_list hch
    subst hll
    have hwt := hw _ (by
      simp only [DataW.weights, hu]
      exact List.mem_cons_self)
    simp only [List.length_map] at hwt
    rw [hB] at hwt
    have hlm : l.length ≤ maxLen := Nat.le_trans hl hm
    refine ⟨l, ⟨some a, cap, rfl, hl, rfl, hlm, fun _ => ⟨a, rfl, fun j x hj => ?_⟩⟩, hlm, ?_, fun x hx => ?_⟩
    · obtain ⟨c, hcc, hk, _⟩ := hp j x hj
      obtain ⟨_, hlc, hcell⟩ := World.cells?_some hcc
      refine ⟨c, by rw [hlc, hc], hk, fun i u hi => ?_⟩
      have hil : i < P.cellsOf e := by
        have := (List.getElem?_eq_some_iff.1 hi).1
        omega
      have := hcell i hil
      rw [hi] at this
      rw [← hc, ← Deep.add_add]
      exact this
    · refine Nat.le_trans (Nat.mul_le_mul_right _ ?_) hwt
      omega
    · obtain ⟨i, hi⟩ := List.mem_iff_getElem?.1 hx
      obtain ⟨c, _, _, hg⟩ := hp i x hi
      exact hg
def OpensFAt (N : Nat) (P : Program) (fs : List Field) (o : Nat) {α : Type} (k : Kd α) (g : α → Prop) : Prop :=
  ∀ {H : Type} (enc : TypeId × Value → H) (W : World) (fuel : Nat) (_ : fuel ≤ N) (cs : List Value) (xs : List (DataW H × List MemPlace)),
    (fs.mapM fun f => DataW.trod enc P W 0 (fun _ => true) true fuel f.type ((cs.drop f.offset).take (P.cellsOf f.type))) = some xs → (∀ n ∈ DataW.weightsEach P (fs.map (·.type)) (xs.map (·.1)), n ≤ 140737488351232) →
      ∃ x : α, k.K W x ((cs.drop o).take k.sz) ∧ g x
theorem opensFAt_one {N : Nat} {P : Program} {f : Field} {o : Nat} {α : Type} {k : Kd α} {g : α → Prop} (ho : f.offset = o) (hc : P.cellsOf f.type = k.sz) (h : OpensAt N P f.type k g) : OpensFAt N P [f] o k g := by
  intro H enc W fuel hf cs xs hm hw
  simp only [List.mapM_cons, List.mapM_nil, Option.bind_eq_bind, Option.bind_eq_some_iff, Option.pure_def, Option.some.injEq] at hm
  obtain ⟨y, hy, _, rfl, rfl⟩ := hm
  obtain ⟨x, hx, hg⟩ := h enc W fuel hf _ y.1 y.2 hy (fun n hn => hw n (by simp [DataW.weightsEach, hn]))
  rw [ho, hc] at hx
  exact ⟨x, hx, hg⟩
theorem opensFAt_cons {N : Nat} {P : Program} {f : Field} {fs : List Field} {o o' : Nat} {α β : Type} {k : Kd α} {ks : Kd β} {g : α → Prop} {gs : β → Prop} (ho : f.offset = o) (hc : P.cellsOf f.type = k.sz) (ho' : o' = o + k.sz) (h : OpensAt N P f.type k g) (hs : OpensFAt N P fs o' ks gs) :
    OpensFAt N P (f :: fs) o (Kd.pair k ks) (fun x => g x.1 ∧ gs x.2) := by
  intro H enc W fuel hf cs xs hm hw
  simp only [List.mapM_cons, Option.bind_eq_bind, Option.bind_eq_some_iff, Option.pure_def, Option.some.injEq] at hm
  obtain ⟨y, hy, ys, hys, rfl⟩ := hm
  obtain ⟨x, hx, hg⟩ := h enc W fuel hf _ y.1 y.2 hy (fun n hn => hw n (by simp [DataW.weightsEach, hn]))
  obtain ⟨z, hz, hgz⟩ := hs enc W fuel hf cs ys hys (fun n hn => hw n (by simp [DataW.weightsEach, hn]))
  rw [ho, hc] at hx
  refine ⟨(x, z), ⟨_, _, ?_, hx, hz⟩, hg, hgz⟩
  subst ho'
  show List.take (k.sz + ks.sz) (List.drop o cs) = _
  rw [List.take_add, List.drop_drop]
theorem opensAt_struct {N : Nat} {P : Program} {t : TypeId} {fs : Array Field} {α β : Type} {k : Kd α} {g : α → Prop} (f : β → α) (inv : α → β) (hf : ∀ a, f (inv a) = a) (hu : P.underlying t = some (.struct fs)) (hc : P.cellsOf t = k.sz) (h : OpensFAt N P fs.toList 0 k g) :
    OpensAt (N + 1) P t (Kd.iso k f) (fun x => g (f x)) := by
  intro H enc W fuel hfu cs d ps ht hw
  obtain ⟨xs, n, rfl, hd, hl, hxl, hget⟩ := DataW.trod_struct hu ht
  obtain ⟨rfl, rfl⟩ := Prod.mk.inj hd
  have hm : fs.toList.mapM (fun f => DataW.trod enc P W 0 (fun _ => true) true n f.type ((cs.drop f.offset).take (P.cellsOf f.type))) = some xs :=
    mapM_some_of_get _ _ (by simpa using hxl) (fun i f hi => hget i f (by simpa using hi))
  obtain ⟨x, hx, hg⟩ := h enc W n (by omega) cs xs hm (fun q hq => hw q (by simpa only [DataW.weights, hu] using hq))
  rw [List.drop_zero, List.take_of_length_le (by rw [hl, hc]; exact Nat.le_refl _)] at hx
  refine ⟨inv x, ?_, ?_⟩
  · show k.K W (f (inv x)) cs
    rw [hf]
    exact hx
  · show g (f (inv x))
    rw [hf]
    exact hg
theorem opensAt25 : ∀ N, OpensAt N Try.prog 25 k25 good25
  | 0 => fun enc W fuel hf cs d ps ht _ => by
    obtain rfl : fuel = 0 := by omega
    simp [DataW.trod] at ht
  | N + 1 => by
    have h0 : OpensAt (N + 1) Try.prog 23 (Kd.slice 25 k25) (fun xs => xs.length ≤ maxLen ∧ xs.length * 96 ≤ 140737488351232 ∧ ∀ x ∈ xs, good25 x) := opensAt_slice (N := N) (B := 96) Try.underlying23 (by kernel_rfl) (by kernel_rfl) (opensAt25 N)
    have h1 : OpensAt (N + 1 + 1) Try.prog 25 (F25 k25) _ := opensAt_struct (N := N + 1) (fun x : S25 => (x.f0, x.f1, x.f2, x.f3, x.f4)) (fun a => (⟨a.1, a.2.1, a.2.2.1, a.2.2.2.1, a.2.2.2.2⟩ : S25)) (fun _ => rfl) Try.underlying25 (by kernel_rfl) (opensFAt_cons rfl (by kernel_rfl) rfl (opens_at (opens_string Try.underlying9) _) (opensFAt_cons rfl (by kernel_rfl) rfl (opens_at (opens_string Try.underlying9) _) (opensFAt_cons rfl (by kernel_rfl) rfl (opens_at (opens_slice (B := 32) Try.underlying22 (by kernel_rfl) (by kernel_rfl) opens51) _) (opensFAt_cons rfl (by kernel_rfl) rfl (opens_at (opens_string Try.underlying9) _) (opensFAt_one rfl (by kernel_rfl) h0)))))
    intro enc W fuel hf cs d ps ht hw
    obtain ⟨x, hx, hg⟩ := h1 enc W fuel (by omega) cs d ps ht hw
    obtain ⟨_, _, rfl, rfl, ⟨_, _, rfl, rfl, ⟨_, _, rfl, ⟨A2, c2, rfl, l2, g2⟩, ⟨_, _, rfl, rfl, ⟨A4, c4, rfl, l4, g4⟩⟩⟩⟩⟩ := hx
    refine ⟨x, k25_mk W x l2 g2 l4 g4, fun k => ?_⟩
    cases k with
    | zero => exact True.intro
    | succ k => exact ⟨hg.1, hg.2.1, hg.2.2.1, hg.2.2.2.1, hg.2.2.2.2.1, hg.2.2.2.2.2.1, fun z hz => hg.2.2.2.2.2.2 z hz k⟩
theorem opens25 : Opens Try.prog 25 k25 good25 := fun enc W fuel cs d ps h1 h2 => opensAt25 fuel enc W fuel (Nat.le_refl _) cs d ps h1 h2

end Go.Proofs.Ytepdfpclicdpfaa.H
