/- How a value that reads as data at a type lays open as the print's kinds say: numbers, bools, strings, slices, structs of one and two fields. Conditions: none beside those each lemma names. -/
import Derived.OpenShut
import Derived.Deep.Slices
import Derived.ChangeSame
import Derived.Test.YtdgpplnfkifkgaaWWords
set_option linter.unusedVariables false
namespace Go.Proofs.Ytdgpplnfkifkgaa.Opens
open Go.ChangeShapes Go.WideShapes Go.Deep Go.Proofs.YtdgpplnfkifkgaaW.PrintWords

/-- Whatever reads as data at type t has the cells that the kind d tells of some value a, and a is bounded as B says. -/
def Opens {α : Type} (P : Program) (W : World) (t : TypeId) (d : Kd α) (B : α → Prop) : Prop :=
  ∀ (H : Type) (enc : TypeId × Value → H) (fuel : Nat) (cs : List Value) (x : DataW H × List MemPlace), DataW.trod enc P W 0 (fun _ => true) true fuel t cs = some x → ∃ a, d.K W a cs ∧ B a

section
variable {P : Program} {W : World}

theorem opens_int {t : TypeId} {k : IntKind} (ht : P.underlying t = some (.int k)) : Opens P W t (Kd.int k) (fun n => (Lit.int k n).wf = true) := by
  intro H enc fuel cs x h
  obtain ⟨n, rfl, _, hw⟩ := DataW.trod_int ht h
  exact ⟨n, rfl, hw⟩
theorem opens_bool {t : TypeId} (ht : P.underlying t = some .bool) : Opens P W t Kd.bool (fun _ => True) := by
  intro H enc fuel cs x h
  obtain ⟨n, rfl, _⟩ := DataW.trod_bool ht h
  exact ⟨n, rfl, trivial⟩
theorem opens_string {t : TypeId} (ht : P.underlying t = some .string) : Opens P W t Kd.string (fun s => s.size ≤ maxLen) := by
  intro H enc fuel cs x h
  obtain ⟨s, rfl, _, hs⟩ := DataW.trod_string ht h
  exact ⟨s, rfl, hs⟩

/-- A list by its places. -/
theorem list_of {α : Type} (p : Nat → α → Prop) : ∀ n : Nat, (∀ i, i < n → ∃ x, p i x) → ∃ xs : List α, xs.length = n ∧ ∀ j x, xs[j]? = some x → p j x
  | 0, _ => ⟨[], rfl, fun j x h => by simp at h⟩
  | n + 1, h => by
    obtain ⟨xs, hl, hx⟩ := list_of p n (fun i hi => h i (by omega))
    obtain ⟨y, hy⟩ := h n (by omega)
    refine ⟨xs ++ [y], by simp [hl], fun j x hj => ?_⟩
    rcases Nat.lt_or_ge j n with h1 | h1
    · rw [List.getElem?_append_left (by omega)] at hj
      exact hx j x hj
    · rw [List.getElem?_append_right (by omega)] at hj
      have : j = n := by
        have := (List.getElem?_eq_some_iff.1 hj).1
        simp at this
        omega
      subst this
      simp [hl] at hj
      rw [← hj]
      exact hy

theorem opens_slice {α : Type} {t e : TypeId} {d : Kd α} {B : α → Prop} (ht : P.underlying t = some (.slice e)) (hc : P.cellsOf e = d.sz) (h0 : Opens P W e d B) :
    Opens P W t (Kd.slice e d) (fun xs => xs.length ≤ maxLen ∧ ∀ x ∈ xs, B x) := by
  intro H enc fuel cs x h
  rcases open_slice ht h with ⟨rfl, _⟩ | ⟨a, len, cap, m, n, D, Pl, rfl, hb, hl, hm, hmm, _, hx⟩
  · exact ⟨[], ⟨none, 0, rfl, Nat.le_refl _, rfl, by simp, fun hp => absurd hp (by simp)⟩, by simp, by simp⟩
  · have hmm' : m = cap := by simpa using hmm
    subst hmm'
    have key : ∀ i, i < len → ∃ y, (∃ c, c.length = d.sz ∧ d.K W y c ∧ ∀ q u, c[q]? = some u → W.cell? (a.add (i * d.sz + q)) = some u) ∧ B y := by
      intro i hi
      obtain ⟨cs', h1, h2⟩ := hx i (by omega)
      obtain ⟨y, hk, hB⟩ := h0 H enc _ _ _ h2
      obtain ⟨_, h3, h4⟩ := World.cells?_some h1
      refine ⟨y, ⟨cs', by rw [h3, hc], hk, fun q u hu => ?_⟩, hB⟩
      have hq : q < cs'.length := (List.getElem?_eq_some_iff.1 hu).1
      have := h4 q (by omega)
      rw [Go.Deep.add_add, hc] at this
      rw [this, hu]
    obtain ⟨xs, hxl, hxs⟩ := list_of _ len key
    subst hxl
    refine ⟨xs, ⟨some a, m, rfl, hl, rfl, ?_, fun _ => ⟨a, rfl, fun j p hj => (hxs j p hj).1⟩⟩, by omega, ?_⟩
    · unfold maxLen at hm; omega
    · intro y hy
      obtain ⟨j, hj, rfl⟩ := List.mem_iff_getElem.1 hy
      exact (hxs j _ (List.getElem?_eq_getElem hj)).2

theorem opens_struct1 {α β : Type} {t : TypeId} {f0 : Field} {d0 : Kd α} {B0 : α → Prop} (f : β → α) (g : α → β) (hfg : ∀ a, f (g a) = a) (ht : P.underlying t = some (.struct #[f0]))
    (ho : f0.offset = 0) (hc : P.cellsOf t = P.cellsOf f0.type) (h0 : Opens P W f0.type d0 B0) : Opens P W t (Kd.iso d0 f) (fun x => B0 (f x)) := by
  intro H enc fuel cs x h
  obtain ⟨xs, n, _, _, hl, hlen, hf⟩ := DataW.trod_struct ht h
  have h1 := hf 0 f0 rfl
  rw [ho, List.drop_zero, ← hc, ← hl, List.take_length] at h1
  have : 0 < xs.length := by rw [hlen]; simp
  rw [List.getElem?_eq_getElem this] at h1
  obtain ⟨a, hk, hB⟩ := h0 H enc _ _ _ h1
  refine ⟨g a, ?_, by show B0 (f (g a)); rw [hfg]; exact hB⟩
  show d0.K W (f (g a)) cs
  rw [hfg]; exact hk

theorem opens_struct2 {α β γ : Type} {t : TypeId} {f0 f1 : Field} {d0 : Kd α} {d1 : Kd β} {B0 : α → Prop} {B1 : β → Prop} (f : γ → α × β) (g : α → β → γ) (hfg : ∀ a b, f (g a b) = (a, b)) (ht : P.underlying t = some (.struct #[f0, f1]))
    (ho : f0.offset = 0) (ho1 : f1.offset = P.cellsOf f0.type) (hc : P.cellsOf t = P.cellsOf f0.type + P.cellsOf f1.type) (h0 : Opens P W f0.type d0 B0) (h1 : Opens P W f1.type d1 B1) :
    Opens P W t (Kd.iso (Kd.pair d0 d1) f) (fun x => B0 (f x).1 ∧ B1 (f x).2) := by
  intro H enc fuel cs x h
  obtain ⟨xs, n, _, _, hl, hlen, hf⟩ := DataW.trod_struct ht h
  have e0 := hf 0 f0 rfl
  have e1 := hf 1 f1 rfl
  have l2 : xs.length = 2 := by rw [hlen]; rfl
  rw [ho, List.drop_zero, List.getElem?_eq_getElem (by omega)] at e0
  rw [ho1, List.getElem?_eq_getElem (by omega)] at e1
  obtain ⟨a, hk0, hB0⟩ := h0 H enc _ _ _ e0
  obtain ⟨b, hk1, hB1⟩ := h1 H enc _ _ _ e1
  refine ⟨g a b, ?_, by show B0 (f (g a b)).1 ∧ B1 (f (g a b)).2; rw [hfg]; exact ⟨hB0, hB1⟩⟩
  show (Kd.pair d0 d1).K W (f (g a b)) cs
  rw [hfg]
  refine ⟨_, _, ?_, hk0, hk1⟩
  have : (cs.drop (P.cellsOf f0.type)).take (P.cellsOf f1.type) = cs.drop (P.cellsOf f0.type) := List.take_of_length_le (by rw [List.length_drop, hl, hc]; omega)
  rw [this, List.take_append_drop]

/-- Out of an argument's reading. -/
theorem Opens.at_ {α : Type} {t : TypeId} {d : Kd α} {B : α → Prop} (h : Opens P W t d B) {H : Type} {enc : TypeId × Value → H} {v : Value} {x : DataW H} {ps : List MemPlace} (ht : DataW.Trod enc P W 0 (fun _ => true) true t v x ps) :
    ∃ a, d.K W a v.cells.toList ∧ B a := by
  obtain ⟨fuel, hf⟩ := ht
  exact h H enc fuel _ _ hf
theorem Opens.slice_ {α : Type} {t e : TypeId} {d : Kd α} {B : List α → Prop} (h : Opens P W t (Kd.slice e d) B) {H : Type} {enc : TypeId × Value → H} {a : Option Addr} {len cap : Nat} {x : DataW H} {ps : List MemPlace} (ht : DataW.Trod enc P W 0 (fun _ => true) true t (.slice a len cap) x ps) :
    ∃ l : List α, len = l.length ∧ l.length ≤ cap ∧ d.C W a l.length l ∧ B l := by
  obtain ⟨l, ⟨A, c, he, hl, hC⟩, hB⟩ := h.at_ ht
  simp [Value.cells] at he
  obtain ⟨rfl, rfl, rfl⟩ := he
  exact ⟨l, rfl, hl, hC, hB⟩
/-- Out of a struct argument's reading: its cells. -/
theorem Opens.agg_ {α : Type} {t : TypeId} {d : Kd α} {B : α → Prop} (h : Opens P W t d B) {H : Type} {enc : TypeId × Value → H} {cs : Array Value} {x : DataW H} {ps : List MemPlace} (ht : DataW.Trod enc P W 0 (fun _ => true) true t (.agg cs) x ps) :
    ∃ a, d.K W a cs.toList ∧ B a := h.at_ ht
end
end Go.Proofs.Ytdgpplnfkifkgaa.Opens
