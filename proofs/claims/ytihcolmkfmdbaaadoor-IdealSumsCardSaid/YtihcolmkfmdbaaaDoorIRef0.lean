/-
  Words for the walks of the document's tables: a table that is put together, row by row.
-/
import Derived.Test.YtihcolmkfmdbaaaDoorIShown1
namespace Go.Proofs.YtihcolmkfmdbaaaDoor.It
open Go.RowKit Go.Proofs.YtihcolmkfmdbaaaDoorW.PrintWords Go.Proofs.YtihcolmkfmdbaaaDoorW.PrintLast Go.Proofs.YtihcolmkfmdbaaaDoorW.PrintMore Go.Proofs.YtihcolmkfmdbaaaDoor.Ip Go.Proofs.YtihcolmkfmdbaaaDoor.Ih Go.Proofs.YtihcolmkfmdbaaaDoor.PId

/-- a table of the call's own, and a list of rows beside it, all in blocks of their own -/
structure Tri (w : World) (base : Nat) (v0 v1 vl : Value) (vs : List Hd) (O : List (List Int)) (P : List (List (List Int))) (L : List (List Int)) : Prop where
  tb : TbH w base v0 v1 vs O P
  own : Own w base vl L
  apart : ∀ i, i < P.length → ∀ k, vl.ownBlock = some k → (sl (vs.getD i h0)).ownBlock ≠ some k
  apart0 : ∀ k, vl.ownBlock = some k → v0.ownBlock ≠ some k
section
variable {w w1 : World} {base : Nat} {v0 v1 vl v : Value} {vs us : List Hd} {O : List (List Int)} {P : List (List (List Int))} {L : List (List Int)}
theorem Own.lt (h : Own w base v L) : ∀ k, v.ownBlock = some k → k < w.heap.size := by
  obtain ⟨us, h1, _⟩ := h.heads
  exact Kd.R_lt h1
theorem Tri.grown (h : Tri w base v0 v1 vl vs O P L) {row : Option Nat} (hg : w.grownBy w1 row) (hrow : ∀ g, row = some g → base ≤ g ∧ ∃ cs T, w.heap[g]? = some (.cells cs T (0, 0)) ∧ T ≠ 61 ∧ T ≠ 54 ∧ T ≠ 22) : Tri w1 base v0 v1 vl vs O P L := by
  refine ⟨h.tb.grown hg hrow, h.own.grown h.tb.bas hg ?_ (fun g e => by obtain ⟨a, cs, T, b, c, _⟩ := hrow g e; exact ⟨a, cs, T, b, c⟩), h.apart, h.apart0⟩
  cases row with
  | none => exact Or.inl rfl
  | some g =>
    refine Or.inr (fun e => ?_)
    obtain ⟨_, cs, T, h1, _, h2, _⟩ := hrow g rfl
    obtain ⟨cs', h3⟩ := h.own.typed54 g e.symm
    exact h2 (two_types h1 h3)
theorem Tri.below (h : Tri w base v0 v1 vl vs O P L) (hb : Below w.heap.size w w1) : Tri w1 base v0 v1 vl vs O P L := h.grown (grown_of_below hb none) (fun g e => by cases e)
theorem Tri.box {g T : Nat} {cs : Array Value} (h : Tri w base v0 v1 vl vs O P L) (hb : w.heap[g]? = some (.cells cs T (0, 0))) (hg : base ≤ g) (hT : T ≠ 61 ∧ T ≠ 54 ∧ T ≠ 22) (i : Nat) (u : Value) : Tri (w.setCell ⟨g, i, none⟩ u) base v0 v1 vl vs O P L :=
  h.grown (row := some g) ⟨rfl, rfl, rfl, Nat.le_of_eq (by simp), fun k _ hk => Below.heap_setCell w ⟨g, i, none⟩ u k (fun e => hk (by rw [e]))⟩ (fun k e => by cases e; exact ⟨hg, cs, T, hb, hT⟩)
theorem Tri.nil (w : World) (base : Nat) (hb : base ≤ w.heap.size) : Tri w base (.slice none 0 0) (.slice none 0 0) (.slice none 0 0) [] [] [] [] :=
  ⟨⟨hb, Own.nil _ _, Prs.nil _ _, fun i h => absurd h (by simp)⟩, Own.nil _ _, fun i h => absurd h (by simp), fun k h => by cases h⟩
/-- the list is forgotten -/
theorem Tri.drop (h : Tri w base v0 v1 vl vs O P L) : Tri w base v0 v1 (.slice none 0 0) vs O P [] := ⟨h.tb, Own.nil _ _, fun i _ k e => (by cases e), fun k e => (by cases e)⟩
end
/-- three boxes (what came, what goes back, what is put together), and the table beside them -/
structure Br (w W : World) (g3 g6 g9 : Nat) (sO sP c9 v0 v1 vl : Value) (O : List (List Int)) (P : List (List (List Int))) (L : List (List Int)) : Prop where
  bel : Below w.heap.size w W
  b3 : W.heap[g3]? = some (.cells #[sO, sP] 25 (0, 0))
  b6 : W.heap[g6]? = some (.cells #[.slice none 0 0, .slice none 0 0] 25 (0, 0))
  b9 : W.heap[g9]? = some (.cells #[c9, v1] 25 (0, 0))
  l3 : w.heap.size ≤ g3
  l6 : w.heap.size ≤ g6
  l9 : w.heap.size ≤ g9
  n36 : g3 ≠ g6
  n39 : g3 ≠ g9
  n69 : g6 ≠ g9
  tri : ∃ vs, Tri W w.heap.size v0 v1 vl vs O P L
section
variable {w W W1 : World} {g3 g6 g9 : Nat} {sO sP c9 v0 v1 vl : Value} {O : List (List Int)} {P : List (List (List Int))} {L : List (List Int)}
theorem Br.below (h : Br w W g3 g6 g9 sO sP c9 v0 v1 vl O P L) (hb : Below W.heap.size W W1) : Br w W1 g3 g6 g9 sO sP c9 v0 v1 vl O P L := by
  obtain ⟨vs, ht⟩ := h.tri
  exact ⟨below_step h.bel hb, (hb.block _ (blk_lt h.b3)).trans h.b3, (hb.block _ (blk_lt h.b6)).trans h.b6, (hb.block _ (blk_lt h.b9)).trans h.b9, h.l3, h.l6, h.l9, h.n36, h.n39, h.n69, vs, ht.below hb⟩
/-- a block grows that is no box -/
theorem Br.grow {row : Option Nat} (h : Br w W g3 g6 g9 sO sP c9 v0 v1 vl O P L) (hg : W.grownBy W1 row) (hT : ∀ g, row = some g → ∃ cs T, W.heap[g]? = some (.cells cs T (0, 0)) ∧ T ≠ 25) :
    W1.heap[g3]? = some (.cells #[sO, sP] 25 (0, 0)) ∧ W1.heap[g6]? = some (.cells #[.slice none 0 0, .slice none 0 0] 25 (0, 0)) ∧ W1.heap[g9]? = some (.cells #[c9, v1] 25 (0, 0)) := by
  have key : ∀ {g : Nat} {cs : Array Value}, W.heap[g]? = some (.cells cs 25 (0, 0)) → some g ≠ row := fun {g} {cs} hc e => by
    obtain ⟨cs', T, h1, h2⟩ := hT g e.symm
    exact h2 (two_types h1 hc)
  exact ⟨(hg.block _ (blk_lt h.b3) (key h.b3)).trans h.b3, (hg.block _ (blk_lt h.b6) (key h.b6)).trans h.b6, (hg.block _ (blk_lt h.b9) (key h.b9)).trans h.b9⟩
theorem Br.drop (h : Br w W g3 g6 g9 sO sP c9 v0 v1 vl O P L) : Br w W g3 g6 g9 sO sP c9 v0 v1 (.slice none 0 0) O P [] := by
  obtain ⟨vs, ht⟩ := h.tri
  exact ⟨h.bel, h.b3, h.b6, h.b9, h.l3, h.l6, h.l9, h.n36, h.n39, h.n69, vs, ht.drop⟩
end
end Go.Proofs.YtihcolmkfmdbaaaDoor.It
