/- Objects of a call's own that live side by side in memory: rows of numbers, boxes; each is kept by whatever leaves its blocks alone. Conditions: those that each theorem names. -/
import Derived.Test.YtdgpplnfkifkgaaWWords
import Derived.Test.YtdgpplnfkifkgaaWLast
import Derived.Test.YtdgpplnfkifkgaaWApart
import Derived.Test.YtdgpplnfkifkgaaWFoot
import Derived.Test.YtdgpplnfkifkgaaWKept
import Derived.Test.YtdgpplnfkifkgaaWMore
set_option linter.unusedVariables false
namespace Go.Proofs.Ytdgpplnfkifkgaa.V
open Go.RowKit Go.Proofs.YtdgpplnfkifkgaaW.PrintWords Go.Proofs.YtdgpplnfkifkgaaW.PrintLast Go.Proofs.YtdgpplnfkifkgaaW.PrintMore

/-- An object: the blocks that it lies in, and what it is. -/
structure Ob where
  ok : Nat → Prop
  P : World → Prop
/-- The object is there in w, and in every world that has its blocks as w has them. -/
structure At (o : Ob) (b : Nat) (w : World) : Prop where
  lo : ∀ k, o.ok k → b ≤ k
  hi : ∀ k, o.ok k → k < w.heap.size
  now : ∀ W : World, (∀ k, o.ok k → W.heap[k]? = w.heap[k]?) → o.P W
/-- Behind w0 the call has made these objects, no two of which share a block. -/
structure Live (w0 w : World) (L : List Ob) : Prop where
  below : Below w0.heap.size w0 w
  all : ∀ o ∈ L, At o w0.heap.size w
  apart : L.Pairwise (fun x y => ∀ k, x.ok k → ¬ y.ok k)

variable {w0 w W : World} {L : List Ob} {o p : Ob}
theorem At.move {b : Nat} (h : At o b w) (hs : w.heap.size ≤ W.heap.size) (hm : ∀ k, o.ok k → W.heap[k]? = w.heap[k]?) : At o b W :=
  ⟨h.lo, fun k hk => Nat.lt_of_lt_of_le (h.hi k hk) hs, fun W' hW => h.now W' (fun k hk => (hW k hk).trans (hm k hk))⟩
theorem Live.start (w : World) : Live w w [] := ⟨Below.refl _ _, fun _ h => by simp at h, List.Pairwise.nil⟩
theorem Live.later (h : Live w0 w L) (hb : Below w.heap.size w W) : Live w0 W L :=
  ⟨below_step h.below hb, fun o ho => (h.all o ho).move hb.size (fun k hk => hb.block k ((h.all o ho).hi k hk)), h.apart⟩
theorem Live.drewN (h : Live w0 w L) (n : Nat) : Live w0 (w.drewN n) L := h.later (pw_below_drewN (Below.refl _ _) n)
theorem Live.drew (h : Live w0 w L) : Live w0 w.drew L := h.later (below_drew1 (Below.refl _ _))
theorem Live.tail (h : Live w0 w (o :: L)) : Live w0 w L := ⟨h.below, fun x hx => h.all x (List.mem_cons_of_mem _ hx), (List.pairwise_cons.1 h.apart).2⟩
/-- The i-th object comes to the front. -/
theorem Live.front (h : Live w0 w L) (i : Nat) (hi : L[i]? = some o) : Live w0 w (o :: L.eraseIdx i) := by
  have hp : L.Perm (o :: L.eraseIdx i) := by
    obtain ⟨hlt, e⟩ := List.getElem?_eq_some_iff.1 hi
    subst e
    rw [List.eraseIdx_eq_take_drop_succ]
    refine List.Perm.trans (List.Perm.of_eq ?_) List.perm_middle
    rw [List.getElem_cons_drop, List.take_append_drop]
  exact ⟨h.below, fun x hx => h.all x (hp.mem_iff.2 hx), (hp.pairwise_iff (R := fun x y : Ob => ∀ k, x.ok k → ¬ y.ok k) (fun hxy k hy hx => hxy k hx hy)).1 h.apart⟩
/-- Some of the objects, in another order. -/
theorem Live.pick (h : Live w0 w L) (is : List Nat) {L' : List Ob} (hn : is.Nodup) (hL : is.filterMap (fun i => L[i]?) = L') : Live w0 w L' := by
  subst hL
  refine ⟨h.below, fun x hx => ?_, ?_⟩
  · obtain ⟨i, _, hi⟩ := List.mem_filterMap.1 hx
    exact h.all x (List.mem_of_getElem? hi)
  · refine List.pairwise_filterMap.2 (hn.imp ?_)
    intro i j hij x hx y hy k hkx hky
    obtain ⟨hi, rfl⟩ := List.getElem?_eq_some_iff.1 hx
    obtain ⟨hj, rfl⟩ := List.getElem?_eq_some_iff.1 hy
    have hp := List.pairwise_iff_getElem.1 h.apart
    rcases Nat.lt_or_gt_of_ne hij with hlt | hlt
    · exact hp i j hi hj hlt k hkx hky
    · exact hp j i hj hi hlt k hky hkx
/-- A new object beside the elder ones. -/
theorem Live.new (h : Live w0 w L) (hb : Below w.heap.size w W) (ho : At o w.heap.size W) : Live w0 W (o :: L) := by
  have h' := h.later hb
  refine ⟨h'.below, fun x hx => ?_, List.pairwise_cons.2 ⟨fun y hy k hx hyk => ?_, h'.apart⟩⟩
  · rcases List.mem_cons.1 hx with rfl | hx
    · exact ⟨fun k hk => Nat.le_trans h.below.size (ho.lo k hk), ho.hi, ho.now⟩
    · exact h'.all x hx
  · have h1 := ho.lo k hx
    have h2 := (h.all y hy).hi k hyk
    omega
/-- Two new objects that share no block. -/
theorem Live.new2 (h : Live w0 w L) (hb : Below w.heap.size w W) (ho : At o w.heap.size W) (hp : At p w.heap.size W) (hd : ∀ k, o.ok k → ¬ p.ok k) : Live w0 W (o :: p :: L) := by
  have h' := h.new hb hp
  refine ⟨h'.below, fun x hx => ?_, List.pairwise_cons.2 ⟨fun y hy k hx hyk => ?_, h'.apart⟩⟩
  · rcases List.mem_cons.1 hx with rfl | hx
    · exact ⟨fun k hk => Nat.le_trans h.below.size (ho.lo k hk), ho.hi, ho.now⟩
    · exact h'.all x hx
  · rcases List.mem_cons.1 hy with rfl | hy
    · exact hd k hx hyk
    · have h1 := ho.lo k hx
      have h2 := (h.all y hy).hi k hyk
      omega
/-- The first object is written; it is another one behind that, in the same blocks. -/
theorem Live.wrote (h : Live w0 w (o :: L)) (hB : Below w0.heap.size w0 W) (hk : Kept w W o.ok) (hok : ∀ k, p.ok k → o.ok k) (hp : ∀ W' : World, (∀ k, p.ok k → W'.heap[k]? = W.heap[k]?) → p.P W') : Live w0 W (p :: L) := by
  obtain ⟨h1, h2⟩ := List.pairwise_cons.1 h.apart
  have ho := h.all o (List.mem_cons_self ..)
  refine ⟨hB, fun x hx => ?_, List.pairwise_cons.2 ⟨fun y hy k hx => h1 y hy k (hok k hx), h2⟩⟩
  rcases List.mem_cons.1 hx with rfl | hx
  · exact ⟨fun k hk' => ho.lo k (hok k hk'), fun k hk' => Nat.lt_of_lt_of_le (ho.hi k (hok k hk')) hk.1, hp⟩
  · have hx' := h.all x (List.mem_cons_of_mem _ hx)
    exact hx'.move hk.1 (fun k hxk => hk.2 k (hx'.hi k hxk) (fun hok' => h1 x hx k hok' hxk))
/-- The first two objects are written. -/
theorem Live.wrote2 {o1 o2 p1 p2 : Ob} (h : Live w0 w (o1 :: o2 :: L)) (hB : Below w0.heap.size w0 W) (hk : Kept w W (fun k => o1.ok k ∨ o2.ok k)) (hok1 : ∀ k, p1.ok k → o1.ok k) (hok2 : ∀ k, p2.ok k → o2.ok k)
    (hp1 : ∀ W' : World, (∀ k, p1.ok k → W'.heap[k]? = W.heap[k]?) → p1.P W') (hp2 : ∀ W' : World, (∀ k, p2.ok k → W'.heap[k]? = W.heap[k]?) → p2.P W') : Live w0 W (p1 :: p2 :: L) := by
  obtain ⟨h1, h2⟩ := List.pairwise_cons.1 h.apart
  obtain ⟨h3, h4⟩ := List.pairwise_cons.1 h2
  have ho1 := h.all o1 (List.mem_cons_self ..)
  have ho2 := h.all o2 (List.mem_cons_of_mem _ (List.mem_cons_self ..))
  refine ⟨hB, fun x hx => ?_, List.pairwise_cons.2 ⟨fun y hy k hx => ?_, List.pairwise_cons.2 ⟨fun y hy k hx => h3 y hy k (hok2 k hx), h4⟩⟩⟩
  · rcases List.mem_cons.1 hx with rfl | hx
    · exact ⟨fun k hk' => ho1.lo k (hok1 k hk'), fun k hk' => Nat.lt_of_lt_of_le (ho1.hi k (hok1 k hk')) hk.1, hp1⟩
    · rcases List.mem_cons.1 hx with rfl | hx
      · exact ⟨fun k hk' => ho2.lo k (hok2 k hk'), fun k hk' => Nat.lt_of_lt_of_le (ho2.hi k (hok2 k hk')) hk.1, hp2⟩
      · have hx' := h.all x (List.mem_cons_of_mem _ (List.mem_cons_of_mem _ hx))
        exact hx'.move hk.1 (fun k hxk => hk.2 k (hx'.hi k hxk) (fun hok' => hok'.elim (fun q => h1 x (List.mem_cons_of_mem _ hx) k q hxk) (fun q => h3 x hx k q hxk)))
  · rcases List.mem_cons.1 hy with rfl | hy
    · exact fun hyk => h1 o2 (List.mem_cons_self ..) k (hok1 k hx) (hok2 k hyk)
    · exact h1 y (List.mem_cons_of_mem _ hy) k (hok1 k hx)
theorem Live.get (h : Live w0 w L) (i : Nat) (hi : L[i]? = some o) : o.P w := (h.all o (List.mem_of_getElem? hi)).now w (fun _ _ => rfl)
theorem Live.came (h : Live w0 w L) {α : Type} {d : Kd α} {A : Option Addr} {n : Nat} {xs : List α} (hr : d.C w0 A n xs) : d.C w A n xs := Kd.C_below hr h.below

/-- A row of numbers of the call's own. -/
def row (B : Nat) (v : Value) (xs : List Int) : Ob := ⟨fun k => some k = v.ownBlock, fun W => Kd.R (Kd.int .i64) 3 W B (fun k => some k = v.ownBlock) v xs⟩
theorem row_at {B b : Nat} {ok : Nat → Prop} {v : Value} {xs : List Int} (hr : Kd.R (Kd.int .i64) 3 w b ok v xs) (hB : B ≤ b) : At (row B v xs) b w :=
  ⟨fun k hk => Kd.R_base hr k hk.symm, fun k hk => Kd.R_lt hr k hk.symm, fun W hW => Kd.R_lower (Kd.R_step (Kd.R_tight rfl hr) (fun k hk _ => hW k hk)) hB⟩
theorem Live.row (h : Live w0 w L) (hb : Below w.heap.size w W) {ok : Nat → Prop} {v : Value} {xs : List Int} (hr : Kd.R (Kd.int .i64) 3 W w.heap.size ok v xs) : Live w0 W (row w0.heap.size v xs :: L) :=
  h.new hb (row_at hr h.below.size)
theorem Live.row2 (h : Live w0 w L) (hb : Below w.heap.size w W) {ok : Nat → Prop} {v u : Value} {xs ys : List Int} (hr : Kd.R (Kd.int .i64) 3 W w.heap.size (fun k => some k ≠ u.ownBlock) v xs) (hu : Kd.R (Kd.int .i64) 3 W w.heap.size ok u ys) :
    Live w0 W (V.row w0.heap.size v xs :: V.row w0.heap.size u ys :: L) :=
  h.new2 hb (row_at hr h.below.size) (row_at hu h.below.size) (fun k hk => hr.1 k hk.symm)
/-- The row, as a call that reads it wants it. -/
theorem Live.reads (h : Live w0 w L) (i : Nat) {B n c : Nat} {A : Option Addr} {xs : List Int} (hi : L[i]? = some (V.row B (.slice A n c) xs)) : n = xs.length ∧ n ≤ c ∧ Kd.C (Kd.int .i64) w A xs.length xs := Kd.R_reads' (h.get i hi)

/-- What a call that reads a row is given. -/
def Rd (w : World) (A : Option Addr) (c : Nat) (l : List Int) : Prop := l.length ≤ c ∧ Kd.C (Kd.int .i64) w A l.length l
theorem Live.rd (h : Live w0 w L) (i : Nat) {B c n : Nat} {A : Option Addr} {xs : List Int} (hi : L[i]? = some (V.row B (.slice A n c) xs)) : Rd w A c xs := by
  obtain ⟨h1, h2, h3⟩ := h.reads i hi
  exact ⟨h1 ▸ h2, h3⟩
theorem Live.rd0 (h : Live w0 w L) {c : Nat} {A : Option Addr} {xs : List Int} (hr : Rd w0 A c xs) : Rd w A c xs := ⟨hr.1, h.came hr.2⟩

/-- A box. -/
def box (g : Nat) (cs : Array Value) (t : Nat) : Ob := ⟨fun k => k = g, fun W => W.heap[g]? = some (.cells cs t (0, 0))⟩
theorem box_at {g : Nat} {cs : Array Value} {t : Nat} (hb : w.heap[g]? = some (.cells cs t (0, 0))) : At (box g cs t) g w :=
  ⟨fun k hk => by subst hk; exact Nat.le_refl _, fun k hk => by subst hk; exact blk_lt hb, fun W hW => (hW g rfl).trans hb⟩
theorem Live.box (h : Live w0 w L) (hb : Below w.heap.size w W) {g : Nat} {cs : Array Value} {t : Nat} (hg : g = w.heap.size) (hx : W.heap[g]? = some (.cells cs t (0, 0))) : Live w0 W (V.box g cs t :: L) := by
  subst hg
  exact h.new hb (box_at hx)
/-- A store into the first box. -/
theorem Live.put {g : Nat} {cs cs' : Array Value} {t : Nat} (h : Live w0 w (V.box g cs t :: L)) (i : Nat) (u : Value) (e : cs.setIfInBounds i u = cs') : Live w0 (w.setCell ⟨g, i, none⟩ u) (V.box g cs' t :: L) := by
  have hb := h.get 0 rfl
  have hlo := (h.all _ (List.mem_cons_self ..)).lo g rfl
  refine h.wrote (below_set h.below hlo) ⟨by simp [World.setCell], fun k _ hn => Below.heap_setCell w _ u k hn⟩ (fun k hk => hk) (fun W' hW => ?_)
  exact (hW g rfl).trans (blk_put hb i u e)
theorem Live.put2 {g : Nat} {x y u v : Value} {t : Nat} (h : Live w0 w (V.box g #[x, y] t :: L)) : Live w0 ((w.setCell ⟨g, 0, none⟩ u).setCell ⟨g, 1, none⟩ v) (V.box g #[u, v] t :: L) := (h.put (cs' := #[u, y]) 0 u rfl).put 1 v rfl
theorem Live.cell (h : Live w0 w L) (i : Nat) {g : Nat} {cs : Array Value} {t : Nat} (hi : L[i]? = some (V.box g cs t)) (j : Nat) {v : Value} (hj : cs[j]? = some v) : w.cell? ⟨g, j, none⟩ = some v := (blk_cell (h.get i hi) j).trans hj
theorem Live.frozen (h : Live w0 w L) (i : Nat) {g : Nat} {cs : Array Value} {t : Nat} (hi : L[i]? = some (V.box g cs t)) (j : Nat) : w.frozen? ⟨g, j, none⟩ = false := blk_frozen (h.get i hi) j
end Go.Proofs.Ytdgpplnfkifkgaa.V
