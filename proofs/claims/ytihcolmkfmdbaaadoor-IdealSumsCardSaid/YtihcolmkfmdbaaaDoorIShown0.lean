/-
  Words for the walks over tables: boxes, a table of the call's own in a box, rows that came in.
-/
import Derived.Test.YtihcolmkfmdbaaaDoorIClone
import Derived.Test.YtihcolmkfmdbaaaDoorIFacts4
namespace Go.Proofs.YtihcolmkfmdbaaaDoor.It
open Go.RowKit Go.Proofs.YtihcolmkfmdbaaaDoorW.PrintWords Go.Proofs.YtihcolmkfmdbaaaDoorW.PrintLast Go.Proofs.YtihcolmkfmdbaaaDoorW.PrintMore Go.Proofs.YtihcolmkfmdbaaaDoor.Ip Go.Proofs.YtihcolmkfmdbaaaDoor.Ih Go.Proofs.YtihcolmkfmdbaaaDoor.PId

/-- rows that came in; rows of rows; numbers -/
structure Rs (w : World) (A : Option Addr) (n c : Nat) (L : List (List Int)) : Prop where
  row : KR.C w A n L
  len : L.length = n
  cap : n ≤ c
structure Ps (w : World) (A : Option Addr) (n c : Nat) (P : List (List (List Int))) : Prop where
  row : KP.C w A n P
  len : P.length = n
  cap : n ≤ c
structure Ns (w : World) (A : Option Addr) (n c : Nat) (l : List Int) : Prop where
  row : Kd.C (Kd.int .i64) w A n l
  len : l.length = n
  cap : n ≤ c
structure Us (w : World) (A : Option Addr) (n c : Nat) (l : List Int) : Prop where
  row : KU.C w A n l
  len : l.length = n
  cap : n ≤ c
section
variable {w w1 : World} {A : Option Addr} {n c : Nat}
theorem Rs.below {L : List (List Int)} (h : Rs w A n c L) (hb : Below w.heap.size w w1) : Rs w1 A n c L := ⟨Kd.C_below h.row hb, h.len, h.cap⟩
theorem Ps.below {P : List (List (List Int))} (h : Ps w A n c P) (hb : Below w.heap.size w w1) : Ps w1 A n c P := ⟨Kd.C_below h.row hb, h.len, h.cap⟩
theorem Ns.below {l : List Int} (h : Ns w A n c l) (hb : Below w.heap.size w w1) : Ns w1 A n c l := ⟨Kd.C_below h.row hb, h.len, h.cap⟩
theorem Us.below {l : List Int} (h : Us w A n c l) (hb : Below w.heap.size w w1) : Us w1 A n c l := ⟨Kd.C_below h.row hb, h.len, h.cap⟩
/-- a row of those -/
theorem Rs.at_ {L : List (List Int)} (h : Rs w A n c L) (i : Nat) (hi : i < n) : ∃ ad B m, A = some ad ∧ w.cell? (ad.add i) = some (.slice B (gr L i).length m) ∧ Us w B (gr L i).length m (gr L i) := by
  obtain ⟨ad, B, m, e, h1, h2, h3⟩ := row_at h.row i hi
  exact ⟨ad, B, m, e, h1, h3, rfl, h2⟩
theorem Ps.at_ {P : List (List (List Int))} (h : Ps w A n c P) (i : Nat) (hi : i < n) : ∃ ad B m, A = some ad ∧ w.cell? (ad.add i) = some (.slice B (gp P i).length m) ∧ Rs w B (gp P i).length m (gp P i) := by
  obtain ⟨ad, B, m, e, h1, h2, h3⟩ := row_at h.row i hi
  exact ⟨ad, B, m, e, h1, h3, rfl, h2⟩
end
/-- a fresh row, as a head -/
theorem rowIn_R {w : World} {base b n c : Nat} {A : Option Addr} {ok : Nat → Prop} {l : List Int} (h : Kd.R KU 61 w b ok (.slice A n c) l) : RowIn w base (A, n, c) l := by
  have h1 := RowIn.of_R (h := (A, n, c)) h
  refine ⟨h1.len, h1.cap, h1.row, fun ad ha hp => ?_⟩
  have ha' : A = some ad := ha
  subst ha'
  exact Or.inr (Kd.R_typed h ad.block rfl)

/-- a box of a table that came in, and one of what will be handed back -/
structure Bx (w W : World) (g3 g6 : Nat) (T : Nat) (sO sP : Value) : Prop where
  bel : Below w.heap.size w W
  b3 : W.heap[g3]? = some (.cells #[sO, sP] T (0, 0))
  b6 : W.heap[g6]? = some (.cells #[.slice none 0 0, .slice none 0 0] T (0, 0))
  l3 : w.heap.size ≤ g3
  l6 : w.heap.size ≤ g6
  ne : g3 ≠ g6
theorem Bx.below {w W W1 : World} {g3 g6 T : Nat} {sO sP : Value} (h : Bx w W g3 g6 T sO sP) (hb : Below W.heap.size W W1) : Bx w W1 g3 g6 T sO sP :=
  ⟨below_step h.bel hb, (hb.block _ (blk_lt h.b3)).trans h.b3, (hb.block _ (blk_lt h.b6)).trans h.b6, h.l3, h.l6, h.ne⟩
/-- a table of the call's own in a box -/
structure Bt (w W : World) (g6 g10 : Nat) (v0 v1 : Value) (O : List (List Int)) (P : List (List (List Int))) : Prop where
  bel : Below w.heap.size w W
  b6 : W.heap[g6]? = some (.cells #[.slice none 0 0, .slice none 0 0] 32 (0, 0))
  b10 : W.heap[g10]? = some (.cells #[v0, v1] 32 (0, 0))
  l6 : w.heap.size ≤ g6
  l10 : w.heap.size ≤ g10
  ne : g6 ≠ g10
  tb : Tb W w.heap.size v0 v1 O P
section
variable {w W W1 : World} {g6 g10 : Nat} {v0 v1 : Value} {O : List (List Int)} {P : List (List (List Int))}
theorem Bt.below (h : Bt w W g6 g10 v0 v1 O P) (hb : Below W.heap.size W W1) : Bt w W1 g6 g10 v0 v1 O P :=
  ⟨below_step h.bel hb, (hb.block _ (blk_lt h.b6)).trans h.b6, (hb.block _ (blk_lt h.b10)).trans h.b10, h.l6, h.l10, h.ne, h.tb.below hb⟩
theorem Bt.grow {g T : Nat} {cs : Array Value} (h : Bt w W g6 g10 v0 v1 O P) {O' : List (List Int)} {P' : List (List (List Int))} (hg : W.grownBy W1 (some g)) (hb : w.heap.size ≤ g) (hT : W.heap[g]? = some (.cells cs T (0, 0))) (hne : T ≠ 32) (ht : Tb W1 w.heap.size v0 v1 O' P') : Bt w W1 g6 g10 v0 v1 O' P' := by
  have h6 : some g6 ≠ some g := fun e => by
    cases e
    exact hne (two_types hT h.b6)
  have h10 : some g10 ≠ some g := fun e => by
    cases e
    exact hne (two_types hT h.b10)
  exact ⟨h.bel.grown hg h.bel.size (fun k e => by cases e; exact hb), (hg.block _ (blk_lt h.b6) h6).trans h.b6, (hg.block _ (blk_lt h.b10) h10).trans h.b10, h.l6, h.l10, h.ne, ht⟩
theorem Bt.setO {g n c i : Nat} {u : Hd} {x : List Int} (h : Bt w W g6 g10 (.slice (some ⟨g, 0, none⟩) n c) v1 O P) (hu : RowIn W w.heap.size u x) :
    Bt w (W.setCell ⟨g, i, none⟩ (sl u)) g6 g10 (.slice (some ⟨g, 0, none⟩) n c) v1 (O.set i x) P := by
  obtain ⟨q1, q2⟩ := h.tb.setO (i := i) hu
  obtain ⟨vs, ht⟩ := h.tb
  obtain ⟨h1, _⟩ := ht.own.typed g rfl
  obtain ⟨cs, h2⟩ := ht.own.typed54 g rfl
  exact h.grow q2 h1 h2 (by decide) q1
theorem Bt.setP {vs : List Hd} {q n c i k : Nat} {u : Hd} {x : List Int} (h : Bt w W g6 g10 v0 v1 O P) (ht : TbH W w.heap.size v0 v1 vs O P) (hi : i < P.length) (hv : sl (vs.getD i h0) = .slice (some ⟨q, 0, none⟩) n c) (hu : RowIn W w.heap.size u x) :
    Bt w (W.setCell ⟨q, k, none⟩ (sl u)) g6 g10 v0 v1 O (P.set i ((gp P i).set k x)) := by
  obtain ⟨q1, q2⟩ := ht.setP (k := k) hi hv hu
  have ho := ht.prs.own i hi
  rw [hv] at ho
  obtain ⟨h1, _⟩ := ho.typed q rfl
  obtain ⟨cs, h2⟩ := ho.typed54 q rfl
  exact h.grow q2 h1 h2 (by decide) ⟨vs, q1⟩
end
/-! ### a table that has been told up to a place -/
theorem mix_step {α : Type} {A B : List α} {j : Nat} (hl : A.length = B.length) (hj : j < A.length) : (A.take j ++ B.drop j).set j (A[j]'hj) = A.take (j + 1) ++ B.drop (j + 1) := by
  apply List.ext_getElem
  · simp; omega
  · intro i h1 h2
    rw [List.getElem_set]
    by_cases e : j = i
    · subst e
      rw [if_pos rfl, List.getElem_append_left (by simp; omega), List.getElem_take]
    · rw [if_neg e]
      by_cases hlt : i < j
      · rw [List.getElem_append_left (by simp; omega), List.getElem_append_left (by simp; omega), List.getElem_take, List.getElem_take]
      · rw [List.getElem_append_right (by simp; omega), List.getElem_append_right (by simp; omega), List.getElem_drop, List.getElem_drop]
        congr 1
        simp only [List.length_take]
        omega
theorem mix_same {α : Type} {A B : List α} {j : Nat} (hl : A.length = B.length) (hj : j < A.length) (he : A[j]'hj = B[j]'(by omega)) : A.take j ++ B.drop j = A.take (j + 1) ++ B.drop (j + 1) := by
  rw [← mix_step hl hj]
  apply List.ext_getElem
  · simp
  · intro i h1 h2
    rw [List.getElem_set]
    by_cases e : j = i
    · subst e
      rw [if_pos rfl, List.getElem_append_right (by simp; omega), List.getElem_drop, he]
      congr 1
      simp only [List.length_take]
      omega
    · rw [if_neg e]
theorem mix_all {α : Type} {A B : List α} {n : Nat} (hA : A.length = n) (hB : B.length = n) : A.take n ++ B.drop n = A := by
  rw [List.take_of_length_le (by omega), List.drop_of_length_le (by omega), List.append_nil]
theorem mix_len {α : Type} {A B : List α} {n j : Nat} (hA : A.length = n) (hB : B.length = n) : (A.take j ++ B.drop j).length = n := by
  simp; omega
end Go.Proofs.YtihcolmkfmdbaaaDoor.It
