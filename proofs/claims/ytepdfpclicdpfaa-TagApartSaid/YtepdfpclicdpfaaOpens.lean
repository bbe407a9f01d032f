/-
  A value of a type that came in (as the row reads it) is one of the print's kinds, and in its bounds: by the type's shape.
-/
import Derived.ProofKit
import Derived.WalkKit
import Derived.Below
import Derived.Deep.Slices
import Derived.Deep.Strs
import Derived.Lib.SmallJoins
import Derived.SizedLaws
import Derived.DataShut
import Derived.Test.YtepdfpclicdpfaaWWords
namespace Go.Proofs.Ytepdfpclicdpfaa.Opens
open Go.RowKit Go.Proofs.YtepdfpclicdpfaaW.PrintWords Go.ChangeShapes Go.WideShapes Go.Deep

/-- A value of type t that came in is one of kind k, and meets g. -/
def Opens (P : Program) (t : TypeId) {α : Type} (k : Kd α) (g : α → Prop) : Prop :=
  ∀ {H : Type} (enc : TypeId × Value → H) (W : World) (fuel : Nat) (cs : List Value) (d : DataW H) (ps : List MemPlace),
    DataW.trod enc P W 0 (fun _ => true) true fuel t cs = some (d, ps) → (∀ n ∈ d.weights P t, n ≤ 140737488351232) → ∃ x : α, k.K W x cs ∧ g x

theorem opens_imp {P : Program} {t : TypeId} {α : Type} {k : Kd α} {g g' : α → Prop} (h : Opens P t k g) (hi : ∀ x, g x → g' x) : Opens P t k g' := by
  intro H enc W fuel cs d ps ht hw
  obtain ⟨x, hx, hg⟩ := h enc W fuel cs d ps ht hw
  exact ⟨x, hx, hi x hg⟩
theorem opens_int {P : Program} {t : TypeId} {ik : IntKind} (hu : P.underlying t = some (.int ik)) : Opens P t (Kd.int ik) (fun x => (Lit.int ik x).wf = true) := by
  intro H enc W fuel cs d ps ht _
  obtain ⟨n, rfl, _, hw⟩ := DataW.trod_int hu ht
  exact ⟨n, rfl, hw⟩
theorem opens_bool {P : Program} {t : TypeId} (hu : P.underlying t = some .bool) : Opens P t Kd.bool (fun _ => True) := by
  intro H enc W fuel cs d ps ht _
  obtain ⟨b, rfl, _⟩ := DataW.trod_bool hu ht
  exact ⟨b, rfl, trivial⟩
theorem opens_string {P : Program} {t : TypeId} (hu : P.underlying t = some .string) : Opens P t Kd.string (fun x => x.size ≤ 140737488351232) := by
  intro H enc W fuel cs d ps ht hw
  obtain ⟨s, rfl, hd, _⟩ := DataW.trod_string hu ht
  obtain ⟨rfl, rfl⟩ := Prod.mk.inj hd
  refine ⟨s, rfl, ?_⟩
  have := hw s.data.toList.length (by simp [DataW.weights])
  simpa using this

theorem choose_list {α : Type} {n : Nat} {p : Nat → α → Prop} (h : ∀ i, i < n → ∃ x, p i x) : ∃ l : List α, l.length = n ∧ ∀ i x, l[i]? = some x → p i x := by
  induction n with
  | zero => exact ⟨[], rfl, fun i x hi => by simp at hi⟩
  | succ n ih =>
    obtain ⟨l, hl, hp⟩ := ih (fun i hi => h i (by omega))
    obtain ⟨y, hy⟩ := h n (by omega)
    refine ⟨l ++ [y], by simp [hl], fun i x hi => ?_⟩
    by_cases hlt : i < l.length
    · rw [List.getElem?_append_left hlt] at hi
      exact hp i x hi
    · rw [List.getElem?_append_right (by omega)] at hi
      have h0 : i - l.length = 0 := by
        have := (List.getElem?_eq_some_iff.1 hi).1
        simp at this
        omega
      rw [h0] at hi
      have hy' : y = x := by simpa using hi
      have : i = n := by omega
      rw [← hy', this]
      exact hy
theorem weightsAll_mem {H : Type} {P : Program} {e : TypeId} {d : DataW H} {n : Nat} (hn : n ∈ d.weights P e) : ∀ {l : List (DataW H)}, d ∈ l → n ∈ DataW.weightsAll P e l
  | [], h => by simp at h
  | y :: l, h => by
    simp only [DataW.weightsAll, List.mem_append]
    rcases List.mem_cons.1 h with rfl | h
    · exact Or.inl hn
    · exact Or.inr (weightsAll_mem hn h)

theorem opens_slice {P : Program} {t e : TypeId} {α : Type} {k : Kd α} {g : α → Prop} {B : Nat} (hu : P.underlying t = some (.slice e)) (hc : P.cellsOf e = k.sz) (hB : P.bytesOf e = B) (h : Opens P e k g) :
    Opens P t (Kd.slice e k) (fun xs => xs.length ≤ maxLen ∧ xs.length * B ≤ 140737488351232 ∧ ∀ x ∈ xs, g x) := by
  intro H enc W fuel cs d ps ht hw
  rcases open_slice hu ht with ⟨rfl, _⟩ | ⟨a, len, cap, m, n, D, Pl, rfl, _, hl, hm, hme, hd, hel⟩
  · refine ⟨[], ⟨none, 0, rfl, Nat.le_refl _, ?_⟩, by simp [maxLen], by simp, by simp⟩
    exact ⟨rfl, by simp, fun h0 => absurd h0 (by simp)⟩
  · obtain ⟨hd, _⟩ := Prod.mk.inj hd
    subst hd
    have hme' : m = cap := by simpa using hme
    subst hme'
    have hch : ∀ i, i < len → ∃ x : α, ∃ c, W.cells? 0 (a.add (i * P.cellsOf e)) (P.cellsOf e) = some c ∧ k.K W x c ∧ g x := by
      intro i hi
      obtain ⟨c, hcc, htr⟩ := hel i (by omega)
      obtain ⟨x, hx, hg⟩ := h enc W n c (D i) (Pl i) htr (fun q hq => hw q (by
        simp only [DataW.weights, hu, List.mem_cons, List.mem_append]
        exact Or.inr (Or.inl (weightsAll_mem hq (List.mem_map.2 ⟨i, List.mem_range.2 hi, rfl⟩)))))
      exact ⟨x, c, hcc, hx, hg⟩
    obtain ⟨l, hll, hp⟩ := choose_list hch
    subst hll
    have hwt := hw _ (by
      simp only [DataW.weights, hu]
      exact List.mem_cons_self)
    simp only [List.length_map, List.length_range] at hwt
    rw [hB] at hwt
    have hlm : l.length ≤ maxLen := Nat.le_trans hl hm
    refine ⟨l, ⟨some a, m, rfl, hl, rfl, hlm, fun _ => ⟨a, rfl, fun j x hj => ?_⟩⟩, hlm, ?_, fun x hx => ?_⟩
    · obtain ⟨c, hcc, hk, _⟩ := hp j x hj
      obtain ⟨_, hlc, hcell⟩ := World.cells?_some hcc
      refine ⟨c, by rw [hlc, hc], hk, fun i u hi => ?_⟩
      have hil : i < P.cellsOf e := by
        have := (List.getElem?_eq_some_iff.1 hi).1
        omega
      have := hcell i hil
      rw [hi] at this
      rw [← hc, ← Deep.add_add]
      exact this
    · exact Nat.le_trans (Nat.mul_le_mul_right _ (by omega)) hwt
    · obtain ⟨i, hi⟩ := List.mem_iff_getElem?.1 hx
      obtain ⟨c, _, _, hg⟩ := hp i x hi
      exact hg

/-- The fields from one on: they lie one behind the other. -/
def OpensF (P : Program) (fs : List Field) (o : Nat) {α : Type} (k : Kd α) (g : α → Prop) : Prop :=
  ∀ {H : Type} (enc : TypeId × Value → H) (W : World) (fuel : Nat) (cs : List Value) (xs : List (DataW H × List MemPlace)),
    (fs.mapM fun f => DataW.trod enc P W 0 (fun _ => true) true fuel f.type ((cs.drop f.offset).take (P.cellsOf f.type))) = some xs → (∀ n ∈ DataW.weightsEach P (fs.map (·.type)) (xs.map (·.1)), n ≤ 140737488351232) →
      ∃ x : α, k.K W x ((cs.drop o).take k.sz) ∧ g x
theorem opensF_one {P : Program} {f : Field} {o : Nat} {α : Type} {k : Kd α} {g : α → Prop} (ho : f.offset = o) (hc : P.cellsOf f.type = k.sz) (h : Opens P f.type k g) : OpensF P [f] o k g := by
  intro H enc W fuel cs xs hm hw
  simp only [List.mapM_cons, List.mapM_nil, Option.bind_eq_bind, Option.bind_eq_some_iff, Option.pure_def, Option.some.injEq] at hm
  obtain ⟨y, hy, _, rfl, rfl⟩ := hm
  obtain ⟨x, hx, hg⟩ := h enc W fuel _ y.1 y.2 hy (fun n hn => hw n (by simp [DataW.weightsEach, hn]))
  rw [ho, hc] at hx
  exact ⟨x, hx, hg⟩
theorem opensF_cons {P : Program} {f : Field} {fs : List Field} {o o' : Nat} {α β : Type} {k : Kd α} {ks : Kd β} {g : α → Prop} {gs : β → Prop} (ho : f.offset = o) (hc : P.cellsOf f.type = k.sz) (ho' : o' = o + k.sz) (h : Opens P f.type k g) (hs : OpensF P fs o' ks gs) :
    OpensF P (f :: fs) o (Kd.pair k ks) (fun x => g x.1 ∧ gs x.2) := by
  intro H enc W fuel cs xs hm hw
  simp only [List.mapM_cons, Option.bind_eq_bind, Option.bind_eq_some_iff, Option.pure_def, Option.some.injEq] at hm
  obtain ⟨y, hy, ys, hys, rfl⟩ := hm
  obtain ⟨x, hx, hg⟩ := h enc W fuel _ y.1 y.2 hy (fun n hn => hw n (by simp [DataW.weightsEach, hn]))
  obtain ⟨z, hz, hgz⟩ := hs enc W fuel cs ys hys (fun n hn => hw n (by simp [DataW.weightsEach, hn]))
  rw [ho, hc] at hx
  refine ⟨(x, z), ⟨_, _, ?_, hx, hz⟩, hg, hgz⟩
  subst ho'
  show List.take (k.sz + ks.sz) (List.drop o cs) = _
  rw [List.take_add, List.drop_drop]
theorem opens_struct {P : Program} {t : TypeId} {fs : Array Field} {α β : Type} {k : Kd α} {g : α → Prop} (f : β → α) (inv : α → β) (hf : ∀ a, f (inv a) = a) (hu : P.underlying t = some (.struct fs)) (hc : P.cellsOf t = k.sz) (h : OpensF P fs.toList 0 k g) :
    Opens P t (Kd.iso k f) (fun x => g (f x)) := by
  intro H enc W fuel cs d ps ht hw
  obtain ⟨xs, n, _, hd, hl, hxl, hget⟩ := DataW.trod_struct hu ht
  obtain ⟨rfl, rfl⟩ := Prod.mk.inj hd
  have hm : fs.toList.mapM (fun f => DataW.trod enc P W 0 (fun _ => true) true n f.type ((cs.drop f.offset).take (P.cellsOf f.type))) = some xs :=
    mapM_some_of_get _ _ (by simpa using hxl) (fun i f hi => hget i f (by simpa using hi))
  obtain ⟨x, hx, hg⟩ := h enc W n cs xs hm (fun q hq => hw q (by simpa only [DataW.weights, hu] using hq))
  rw [List.drop_zero, List.take_of_length_le (by rw [hl, hc]; exact Nat.le_refl _)] at hx
  refine ⟨inv x, ?_, ?_⟩
  · show k.K W (f (inv x)) cs
    rw [hf]
    exact hx
  · show g (f (inv x))
    rw [hf]
    exact hg

/-- An argument. -/
theorem opens_arg {P : Program} {t : TypeId} {α : Type} {k : Kd α} {g : α → Prop} {H : Type} {enc : TypeId × Value → H} {W : World} {v : Value} {d : DataW H} {ps : List MemPlace} {ts : List TypeId} {ds : List (DataW H)} {j : Nat}
    (h : Opens P t k g) (hsz : (DataW.weightsEach P ts ds).all (· ≤ reachBytes) = true) (ht : ts[j]? = some t) (hd : ds[j]? = some d) (hk : DataW.Trod enc P W 0 (fun _ => true) true t v d ps) : ∃ x : α, k.K W x v.cells.toList ∧ g x := by
  obtain ⟨fuel, hf⟩ := hk
  refine h enc W fuel _ d ps hf (fun n hn => ?_)
  have hin : ∀ (ts : List TypeId) (ds : List (DataW H)) (j : Nat), ts[j]? = some t → ds[j]? = some d → n ∈ DataW.weightsEach P ts ds := by
    intro ts
    induction ts with
    | nil => intro ds j h0 _; simp at h0
    | cons t' ts ih =>
      intro ds j h0 h1
      cases ds with
      | nil => simp at h1
      | cons d' ds =>
        simp only [DataW.weightsEach, List.mem_append]
        cases j with
        | zero =>
          have e0 : t' = t := by simpa using h0
          have e1 : d' = d := by simpa using h1
          subst e0 e1
          exact Or.inl hn
        | succ j => exact Or.inr (ih ds j (by simpa using h0) (by simpa using h1))
  have := List.all_eq_true.1 hsz n (hin ts ds j ht hd)
  have h2 : n ≤ reachBytes := by simpa using this
  exact Nat.le_trans h2 (by decide)
theorem agg_cells {v : Value} {cs : Array Value} (h : v = .agg cs) : v.cells.toList = cs.toList := by subst h; rfl
end Go.Proofs.Ytepdfpclicdpfaa.Opens
