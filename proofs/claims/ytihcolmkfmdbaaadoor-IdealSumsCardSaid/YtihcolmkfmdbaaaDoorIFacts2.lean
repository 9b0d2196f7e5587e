/-
  What the printed functions of ideal, of its reference, and of the laws answer.
-/
import Derived.Test.YtihcolmkfmdbaaaDoorIFacts
import Derived.Test.YtihcolmkfmdbaaaDoorPIdx1
import Derived.Test.YtihcolmkfmdbaaaDoorPIdx4
import Derived.Test.YtihcolmkfmdbaaaDoorPIdx10
namespace Go.Proofs.YtihcolmkfmdbaaaDoor.PId
open Go.RowKit Go.Proofs.YtihcolmkfmdbaaaDoorW.PrintWords Go.Proofs.YtihcolmkfmdbaaaDoorW.PrintLast Go.Proofs.YtihcolmkfmdbaaaDoorW.PrintMore Go.Proofs.YtihcolmkfmdbaaaDoor.Ip
open Classical

theorem L1_at (l : List (List Int)) (j : Nat) : rd_L1 l (j : Int) = gr l j := rfl
theorem L2_at (l : List (List (List Int))) (j : Nat) : rd_L2 l (j : Int) = gp l j := rfl
def dimOf (L : List (List Int)) : Nat := (gr L 0).length
theorem rest_step {n j : Nat} {A : Nat → Prop} (h : A j) : (∀ i, j ≤ i → i < n → A i) = (∀ i, j + 1 ≤ i → i < n → A i) := by
  apply propext
  constructor
  · intro q i h1 h2; exact q i (by omega) h2
  · intro q i h1 h2
    by_cases e : i = j
    · subst e; exact h
    · exact q i (by omega) h2
theorem rest_no {n j : Nat} {A : Nat → Prop} (hj : j < n) (h : ¬ A j) : ¬ ∀ i, j ≤ i → i < n → A i := fun q => h (q j (Nat.le_refl _) hj)
theorem rest_end {n j : Nat} {A : Nat → Prop} (hj : n ≤ j) : ∀ i, j ≤ i → i < n → A i := fun i h1 h2 => absurd h2 (by omega)
theorem suc (j : Nat) : ((j : Int) + 1) = ((j + 1 : Nat) : Int) := by omega
theorem okRows_is (d : Int) (l : List (List Int)) : Ih.okRows d l = true ↔ ∀ i, i < l.length → ((gr l i).length : Int) = d := by
  unfold Ih.okRows
  rw [decide_eq_true_eq]
  constructor
  · intro h i hi
    have := h l[i] (List.getElem_mem hi)
    simpa [gr, List.getD, hi] using this
  · intro h x hx
    obtain ⟨i, hi, rfl⟩ := List.mem_iff_getElem.1 hx
    have := h i hi
    simpa [gr, List.getD, hi] using this

/-! ### may there be such a table? -/
def prOk (many dim : Int) (P : List (List (List Int))) (i : Nat) : Prop := ((gp P i).length : Int) = many - 1 - i ∧ ∀ k, k < (gp P i).length → ((gr (gp P i) k).length : Int) = dim
structure FitP (O : List (List Int)) (P : List (List (List Int))) (many dim : Int) : Prop where
  b : 0 ≤ many ∧ many ≤ 64 ∧ 0 ≤ dim ∧ dim ≤ 32
  own : (O.length : Int) = many
  prs : (P.length : Int) = many
  ol : ∀ i, i < O.length → ((gr O i).length : Int) = dim
  pl : ∀ i, 0 ≤ i → i < P.length → prOk many dim P i
theorem check_loop' (many dim : Int) (hm : 0 ≤ many ∧ many ≤ 64) (P : List (List (List Int))) (hP : P.length ≤ 64) (d : Nat) : ∀ (k j : Nat), P.length ≤ j + d → j ≤ P.length → d < k →
    ideal_Check.l0 k many dim P (P.length : Int) (j : Int) = some (if ∀ i, j ≤ i → i < P.length → prOk many dim P i then none else some 1) := by
  induction d with
  | zero =>
    intro k j hd hj hk
    obtain ⟨k, rfl⟩ : ∃ m, k = m + 1 := ⟨k - 1, by omega⟩
    simp only [ideal_Check.l0]
    rw [if_neg (by omega), if_pos (rest_end (by omega))]
  | succ d ih =>
    intro k j hd hj hk
    obtain ⟨k, rfl⟩ : ∃ m, k = m + 1 := ⟨k - 1, by omega⟩
    simp only [ideal_Check.l0]
    by_cases hlt : j < P.length
    · rw [if_pos (by omega), if_pos (by omega), if_pos (by omega), L2_at, wrap64_in' (many - 1) (by omega) (by omega), wrap64_in' _ (by omega) (by omega)]
      by_cases h1 : ((gp P j).length : Int) = many - 1 - j
      · rw [if_pos h1]
        simp only [ideal_rowed.f, obind]
        by_cases h2 : Ih.okRows dim (gp P j) = true
        · rw [if_pos h2, wrap64_in' _ (by omega) (by omega), suc, ih k (j + 1) (by omega) (by omega) (by omega), rest_step (A := prOk many dim P) ⟨h1, (okRows_is _ _).1 h2⟩]
        · rw [if_neg h2, if_neg (rest_no hlt (fun q => h2 ((okRows_is _ _).2 q.2)))]
      · rw [if_neg h1, if_neg (rest_no hlt (fun q => h1 q.1))]
    · rw [if_neg (by omega), if_pos (rest_end (by omega))]
theorem check_j0 (k : Nat) (hk : 0 < k) (many dim : Int) (O : List (List Int)) (P : List (List (List Int))) : ideal_Check.j0 k many dim true O P = some (some 1) := by
  obtain ⟨k, rfl⟩ : ∃ m, k = m + 1 := ⟨k - 1, by omega⟩
  simp only [ideal_Check.j0]
  rw [if_pos trivial]
theorem check_is (k : Nat) (hk : 100 < k) (O : List (List Int)) (P : List (List (List Int))) (many dim : Int) : ideal_Check.f k O P many dim = some (if FitP O P many dim then none else some 1) := by
  unfold ideal_Check.f
  by_cases h1 : many < 0
  · rw [if_pos h1, check_j0 k (by omega), if_neg (fun h => by have := h.b; omega)]
  rw [if_neg h1]
  by_cases h2 : many > 64
  · rw [if_pos h2, check_j0 k (by omega), if_neg (fun h => by have := h.b; omega)]
  rw [if_neg h2]
  by_cases h3 : dim < 0
  · rw [if_pos h3, check_j0 k (by omega), if_neg (fun h => by have := h.b; omega)]
  rw [if_neg h3]
  by_cases h4 : dim > 32
  · rw [if_pos h4, check_j0 k (by omega), if_neg (fun h => by have := h.b; omega)]
  rw [if_neg h4]
  by_cases h5 : (O.length : Int) = many
  · rw [if_pos h5]
    by_cases h6 : (P.length : Int) = many
    · rw [if_pos h6]
      simp only [ideal_rowed.f, obind]
      by_cases h7 : Ih.okRows dim O = true
      · rw [h7]
        obtain ⟨k, rfl⟩ : ∃ m, k = m + 1 := ⟨k - 1, by omega⟩
        simp only [Bool.not_true, ideal_Check.j0]
        rw [if_neg (by decide)]
        have h := check_loop' many dim (by omega) P (by omega) P.length k 0 (by omega) (by omega) (by omega)
        refine h.trans ?_
        by_cases h8 : ∀ i, 0 ≤ i → i < P.length → prOk many dim P i
        · rw [if_pos h8, if_pos ⟨by omega, h5, h6, (okRows_is _ _).1 h7, h8⟩]
        · rw [if_neg h8, if_neg (fun h => h8 h.pl)]
      · rw [eq_false_of_ne_true h7]
        simp only [Bool.not_false]
        rw [check_j0 k (by omega), if_neg (fun h => h7 ((okRows_is _ _).2 h.ol))]
    · rw [if_neg h6, check_j0 k (by omega), if_neg (fun h => h6 h.prs)]
  · rw [if_neg h5, check_j0 k (by omega), if_neg (fun h => h5 h.own)]
theorem FitP.fit {O : List (List Int)} {P : List (List (List Int))} {n d : Nat} (h : FitP O P (n : Int) (d : Int)) : Fit O P n d ∧ n ≤ 64 ∧ d ≤ 32 := by
  have h1 := h.own
  have h2 := h.prs
  refine ⟨⟨by omega, by omega, fun i hi => by have := h.ol i (by omega); omega, fun i hi => by have := (h.pl i (by omega) (by omega)).1; omega, fun i hi k hk => ?_⟩, by have := h.b; omega, by have := h.b; omega⟩
  obtain ⟨q1, q2⟩ := h.pl i (by omega) (by omega)
  have := q2 k (by omega)
  omega
/-! ### are rows for a table? -/
structure FitsP (O : List (List Int)) (P : List (List (List Int))) (L : List (List Int)) : Prop where
  fit : FitP O P (L.length : Int) (dimOf L : Int)
  rows : ∀ i, i < L.length → (gr L i).length = dimOf L
theorem fits_j0 (k : Nat) (hk : 101 < k) (O : List (List Int)) (P : List (List (List Int))) (L : List (List Int)) : ideal_fits.j0 k L (dimOf L : Int) O P = some (if FitsP O P L then ((dimOf L : Int), none) else (0, some 1)) := by
  obtain ⟨k, rfl⟩ : ∃ m, k = m + 1 := ⟨k - 1, by omega⟩
  simp only [ideal_fits.j0]
  rw [check_is k (by omega)]
  simp only [obind]
  by_cases h : FitP O P (L.length : Int) (dimOf L : Int)
  · rw [if_pos h, if_pos (show (none : Option Int).isNone = true from rfl)]
    simp only [ideal_rowed.f, obind]
    by_cases h2 : Ih.okRows (dimOf L : Int) L = true
    · rw [if_pos h2, if_pos ⟨h, fun i hi => by have := (okRows_is _ _).1 h2 i hi; omega⟩]
    · rw [if_neg h2, if_neg (fun q => h2 ((okRows_is _ _).2 (fun i hi => by have := q.rows i hi; omega)))]
  · rw [if_neg h, if_neg (by simp), if_neg (fun q => h q.fit)]
theorem fits_is (k : Nat) (hk : 101 < k) (O : List (List Int)) (P : List (List (List Int))) (L : List (List Int)) : ideal_fits.f k O P L = some (if FitsP O P L then ((dimOf L : Int), none) else (0, some 1)) := by
  unfold ideal_fits.f
  by_cases h : (L.length : Int) > 0
  · rw [if_pos h, if_pos (by omega)]
    exact fits_j0 k hk O P L
  · rw [if_neg h]
    have h0 : L = [] := List.eq_nil_of_length_eq_zero (by omega)
    have e : (0 : Int) = (dimOf L : Int) := by rw [h0]; rfl
    conv => lhs; rw [e]
    exact fits_j0 k hk O P L
theorem dim_is (L : List (List Int)) : caucusref37_Dim.f L = some (dimOf L : Int) := by
  unfold caucusref37_Dim.f
  by_cases h : (L.length : Int) = 0
  · rw [if_pos h]
    have h0 : L = [] := List.eq_nil_of_length_eq_zero (by omega)
    rw [h0]
    rfl
  · rw [if_neg h, if_pos (by omega)]
    rfl
theorem FitsP.plain {O : List (List Int)} {P : List (List (List Int))} {L : List (List Int)} (h : FitsP O P L) : Fit O P L.length (dimOf L) ∧ Ip.Rows L L.length (dimOf L) ∧ L.length ≤ 64 ∧ dimOf L ≤ 32 := by
  obtain ⟨h1, h2, h3⟩ := h.fit.fit
  exact ⟨h1, ⟨rfl, h.rows⟩, h2, h3⟩
end Go.Proofs.YtihcolmkfmdbaaaDoor.PId
