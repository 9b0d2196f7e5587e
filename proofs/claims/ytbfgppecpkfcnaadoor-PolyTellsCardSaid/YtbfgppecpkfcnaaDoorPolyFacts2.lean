/-
  The curve through points, as the program (weights) and the document (Newton's numbers) have it: it is the same.
-/
import Derived.Test.YtbfgppecpkfcnaaDoorPolyFacts
namespace Go.Proofs.YtbfgppecpkfcnaaDoor.PPoly
open Go.RowKit Go.Proofs.YtbfgppecpkfcnaaDoorW.PrintWords Go.Proofs.YtbfgppecpkfcnaaDoorW.PrintLast Go.Proofs.YtbfgppecpkfcnaaDoorW.PrintMore Go.Proofs.YtbfgppecpkfcnaaDoor.PFp Go.Proofs.YtbfgppecpkfcnaaDoor.Fq

/-! ### the curve through points -/
theorem getD_at (X : List K) (j : Nat) (h : j < X.length) : X.getD j 0 = X[j] := by
  simp [List.getD, h]
theorem nodup_at (X : List K) (hn : X.Nodup) (i j : Nat) (hi : i < X.length) (hj : j < X.length) (e : X.getD i 0 = X.getD j 0) : i = j := by
  rw [getD_at X i hi, getD_at X j hj] at e
  have hp := List.pairwise_iff_getElem.1 hn
  rcases Nat.lt_trichotomy i j with h1 | h1 | h1
  · exact absurd e (hp i j hi hj h1)
  · exact h1
  · exact absurd e.symm (hp j i hj hi h1)
theorem pr_D (X : List K) (i : Nat) : ∀ j, D (if i < j then j else j + 1) (fun t => pr X i t j) := by
  intro j
  induction j with
  | zero =>
    rw [if_neg (by omega)]
    exact D.const 1
  | succ j ih =>
    by_cases h : j = i
    · rw [if_pos (by omega)]
      rw [if_neg (by omega)] at ih
      exact ih.congr (fun t => by simp only [pr]; rw [if_pos h])
    · have h2 : D ((if i < j then j else j + 1) + 1) (fun t => (t - X.getD j 0) * pr X i t j) := ih.factor _
      have e : (if i < j then j else j + 1) + 1 = (if i < j + 1 then j + 1 else j + 1 + 1) := by
        split
        · rw [if_pos (by omega)]
        · rw [if_neg (by omega)]
      rw [e] at h2
      exact h2.congr (fun t => by simp only [pr]; rw [if_neg h]; grind)
theorem lag_D (X : List K) (i : Nat) (hi : i < X.length) : D X.length (fun t => lag X i t) := by
  have h := pr_D X i X.length
  rw [if_pos hi] at h
  exact (h.mul (kinv (pr X i (X.getD i 0) X.length))).congr (fun t => by unfold lag; grind)
theorem pr_zero (X : List K) (i m : Nat) (hne : m ≠ i) : ∀ j, m < j → pr X i (X.getD m 0) j = 0 := by
  intro j
  induction j with
  | zero => intro h; omega
  | succ j ih =>
    intro h
    unfold pr
    by_cases hj : j = i
    · rw [if_pos hj]
      exact ih (by omega)
    · rw [if_neg hj]
      by_cases hm : m = j
      · subst hm
        grind
      · rw [ih (by omega)]
        grind
theorem lag_self (X : List K) (hn : X.Nodup) (i : Nat) (hi : i < X.length) : lag X i (X.getD i 0) = 1 := by
  unfold lag
  have := kinv_mul _ (pr_ne X i hi hn X.length (Nat.le_refl _))
  grind
theorem lag_other (X : List K) (i m : Nat) (hm : m < X.length) (hne : m ≠ i) : lag X i (X.getD m 0) = 0 := by
  unfold lag
  rw [pr_zero X i m hne X.length hm]
  grind
def thrL (X Y : List K) (t : K) : Nat → K
  | 0 => 0
  | j + 1 => thrL X Y t j + lag X j t * Y.getD j 0
def thr (X Y : List K) (t : K) : K := thrL X Y t X.length
theorem thrL_D (X Y : List K) : ∀ j, j ≤ X.length → D X.length (fun t => thrL X Y t j) := by
  intro j
  induction j with
  | zero => intro _; exact (D.zero X.length).congr (fun _ => rfl)
  | succ j ih =>
    intro h
    exact ((ih (by omega)).add ((lag_D X j (by omega)).mul (Y.getD j 0))).congr (fun t => by simp only [thrL]; grind)
theorem thr_D (X Y : List K) : D X.length (thr X Y) := (thrL_D X Y X.length (Nat.le_refl _)).congr (fun _ => rfl)
theorem thrL_at (X Y : List K) (hn : X.Nodup) (m : Nat) (hm : m < X.length) : ∀ j, j ≤ X.length → thrL X Y (X.getD m 0) j = if m < j then Y.getD m 0 else 0 := by
  intro j
  induction j with
  | zero => intro _; rw [if_neg (by omega)]; rfl
  | succ j ih =>
    intro h
    unfold thrL
    rw [ih (by omega)]
    by_cases e : m = j
    · subst e
      rw [if_neg (by omega), if_pos (by omega), lag_self X hn m hm]
      grind
    · rw [lag_other X j m hm e]
      by_cases h2 : m < j
      · rw [if_pos h2, if_pos (by omega)]; grind
      · rw [if_neg h2, if_neg (by omega), k_zero_add]
        exact (show ∀ y : K, 0 * y = 0 from fun y => by grind) _
theorem thr_at (X Y : List K) (hn : X.Nodup) (m : Nat) (hm : m < X.length) : thr X Y (X.getD m 0) = Y.getD m 0 := by
  unfold thr
  rw [thrL_at X Y hn m hm X.length (Nat.le_refl _), if_pos hm]
theorem thr_uniq (X Y : List K) (hn : X.Nodup) (f : K → K) (hf : D X.length f) (h : ∀ m, m < X.length → f (X.getD m 0) = Y.getD m 0) : ∀ t, f t = thr X Y t := by
  refine hf.same (thr_D X Y) X hn (Nat.le_refl _) (fun x hx => ?_)
  obtain ⟨m, hm, rfl⟩ := List.mem_iff_getElem.1 hx
  have h1 := h m hm
  have h2 := thr_at X Y hn m hm
  rw [getD_at X m hm] at h1 h2
  rw [h1, h2]

/-! ### Newton's numbers -/
def np (X : List K) (t : K) : Nat → K
  | 0 => 1
  | j + 1 => np X t j * (t - X.getD j 0)
def nv (N X : List K) (t : K) : Nat → K
  | 0 => 0
  | j + 1 => nv N X t j + N.getD j 0 * np X t j
theorem np_D (X : List K) : ∀ j, D (j + 1) (fun t => np X t j) := by
  intro j
  induction j with
  | zero => exact D.const 1
  | succ j ih => exact (ih.factor (X.getD j 0)).congr (fun t => by simp only [np]; grind)
theorem nv_D (N X : List K) : ∀ j, D j (fun t => nv N X t j) := by
  intro j
  induction j with
  | zero => exact ⟨[], rfl, fun _ => rfl⟩
  | succ j ih => exact (ih.up.add ((np_D X j).mul (N.getD j 0))).congr (fun t => by simp only [nv])
theorem np_zero (X : List K) (m : Nat) : ∀ j, m < j → np X (X.getD m 0) j = 0 := by
  intro j
  induction j with
  | zero => intro h; omega
  | succ j ih =>
    intro h
    unfold np
    by_cases e : m = j
    · subst e; grind
    · rw [ih (by omega)]; grind
theorem np_ne (X : List K) (hn : X.Nodup) (i : Nat) (hi : i < X.length) : ∀ j, j ≤ i → np X (X.getD i 0) j ≠ 0 := by
  intro j
  induction j with
  | zero => intro _; exact one_ne
  | succ j ih =>
    intro h h0
    unfold np at h0
    rcases no_zero _ _ h0 with h1 | h1
    · exact ih (by omega) h1
    · have e : X.getD i 0 = X.getD j 0 := by grind
      have := nodup_at X hn i j hi (by omega) e
      omega
theorem nv_more (N X : List K) (x t : K) : ∀ j, j ≤ N.length → nv (N ++ [x]) X t j = nv N X t j := by
  intro j
  induction j with
  | zero => intro _; rfl
  | succ j ih =>
    intro h
    unfold nv
    rw [ih (by omega)]
    have : (N ++ [x]).getD j 0 = N.getD j 0 := by
      simp [List.getD, List.getElem?_append_left (show j < N.length by omega)]
    rw [this]
theorem nv_last (N X : List K) (x t : K) : nv (N ++ [x]) X t (N.length + 1) = nv N X t N.length + x * np X t N.length := by
  show nv (N ++ [x]) X t N.length + (N ++ [x]).getD N.length 0 * np X t N.length = _
  rw [nv_more N X x t N.length (Nat.le_refl _)]
  have : (N ++ [x]).getD N.length 0 = x := by simp [List.getD]
  rw [this]
/-- Newton's numbers of the first points -/
def Newt (N X Y : List K) : Prop := N.length ≤ X.length ∧ ∀ m, m < N.length → nv N X (X.getD m 0) N.length = Y.getD m 0
theorem Newt.step {N X Y : List K} (h : Newt N X Y) (hn : X.Nodup) (hi : N.length < X.length) :
    Newt (N ++ [(Y.getD N.length 0 - nv N X (X.getD N.length 0) N.length) * kinv (np X (X.getD N.length 0) N.length)]) X Y := by
  refine ⟨by simp; omega, fun m hm => ?_⟩
  simp only [List.length_append, List.length_singleton] at hm ⊢
  rw [nv_last]
  by_cases e : m = N.length
  · subst e
    have := kinv_mul _ (np_ne X hn N.length hi N.length (Nat.le_refl _))
    grind
  · rw [h.2 m (by omega), np_zero X m N.length (by omega)]
    grind
theorem Newt.done {N X Y : List K} (h : Newt N X Y) (hn : X.Nodup) (hl : N.length = X.length) (t : K) : nv N X t X.length = thr X Y t := by
  refine thr_uniq X Y hn (fun t => nv N X t X.length) (nv_D N X X.length) (fun m hm => ?_) t
  have := h.2 m (by omega)
  rw [hl] at this
  exact this
end Go.Proofs.YtbfgppecpkfcnaaDoor.PPoly
