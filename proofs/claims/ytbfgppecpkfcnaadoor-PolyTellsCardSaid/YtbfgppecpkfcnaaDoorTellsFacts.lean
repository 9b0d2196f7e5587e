/-
  The law PolyTells: plain facts.
-/
import Derived.Test.YtbfgppecpkfcnaaDoorSums
namespace Go.Proofs.YtbfgppecpkfcnaaDoor.PPoly
open Go.RowKit Go.Proofs.YtbfgppecpkfcnaaDoorW.PrintWords Go.Proofs.YtbfgppecpkfcnaaDoorW.PrintLast Go.Proofs.YtbfgppecpkfcnaaDoorW.PrintMore Go.Proofs.YtbfgppecpkfcnaaDoor.PFp Go.Proofs.YtbfgppecpkfcnaaDoor.Fq

/-- the first j values are nought -/
def zer (p : List (Nat × Nat)) (j : Nat) : List (Nat × Nat) := p.mapIdx fun i s => if i < j then (s.1, 0) else s
theorem zer_len (p : List (Nat × Nat)) (j : Nat) : (zer p j).length = p.length := by simp [zer]
theorem zer_at (p : List (Nat × Nat)) (j i : Nat) (h : i < (zer p j).length) : (zer p j)[i] = if i < j then ((p[i]'(by rw [zer_len] at h; exact h)).1, 0) else p[i]'(by rw [zer_len] at h; exact h) := by
  simp [zer]
theorem zer_zero (p : List (Nat × Nat)) : zer p 0 = p := by
  refine List.ext_getElem (zer_len p 0) (fun i h1 h2 => ?_)
  rw [zer_at p 0 i h1, if_neg (by omega)]
theorem p69_set (p : List (Nat × Nat)) (j : Nat) (s : Nat × Nat) : (p69 p).set j (⟨(s.1 : Int), (s.2 : Int)⟩ : S69) = p69 (p.set j s) := by
  unfold p69
  rw [List.map_set]
theorem zer_next (p : List (Nat × Nat)) (j : Nat) (h : j < p.length) : (zer p j).set j (p[j].1, 0) = zer p (j + 1) := by
  refine List.ext_getElem (by rw [List.length_set, zer_len, zer_len]) (fun i h1 h2 => ?_)
  rw [List.getElem_set, zer_at p (j + 1) i h2]
  rw [List.length_set] at h1
  by_cases e : j = i
  · subst e
    rw [if_pos rfl, if_pos (by omega)]
  · rw [if_neg e, zer_at p j i h1]
    by_cases h3 : i < j
    · rw [if_pos h3, if_pos (by omega)]
    · rw [if_neg h3, if_neg (by omega)]
def uni (p : List (Nat × Nat)) (k x : Nat) : List (Nat × Nat) := (zer p p.length).set k (x, 1)
theorem uni_len (p : List (Nat × Nat)) (k x : Nat) : (uni p k x).length = p.length := by
  unfold uni
  rw [List.length_set, zer_len]
theorem zer_X (p : List (Nat × Nat)) (j : Nat) : pX (zer p j) = pX p := by
  refine List.ext_getElem (by rw [pX_len, pX_len, zer_len]) (fun i h1 h2 => ?_)
  rw [pX_len] at h1
  have e : (pX (zer p j))[i]'(by rw [pX_len]; exact h1) = (zer p j)[i].1 := by simp [pX]
  rw [e, zer_at p j i h1]
  split <;> simp [pX]
theorem uni_at (p : List (Nat × Nat)) (k x i : Nat) (h : i < (uni p k x).length) : (uni p k x)[i] = if k = i then (x, 1) else (zer p p.length)[i]'(by rw [uni_len] at h; rw [zer_len]; exact h) := by
  simp only [uni, List.getElem_set]
theorem uni_X (p : List (Nat × Nat)) (k : Nat) (h : k < p.length) : pX (uni p k p[k].1) = pX p := by
  unfold uni
  have e : pX ((zer p p.length).set k (p[k].1, 1)) = (pX (zer p p.length)).set k p[k].1 := by
    unfold pX
    rw [List.map_set]
  rw [e, zer_X]
  refine List.ext_getElem (by rw [List.length_set]) (fun i h1 h2 => ?_)
  rw [List.getElem_set]
  split
  · rename_i e2
    subst e2
    simp [pX]
  · rfl
theorem uni_Y (p : List (Nat × Nat)) (k x i : Nat) (hi : i < p.length) : (kY (uni p k x)).getD i 0 = if i = k then 1 else 0 := by
  have hl : i < (uni p k x).length := by rw [uni_len]; exact hi
  rw [kY_at _ i hl, uni_at p k x i hl]
  by_cases e : k = i
  · subst e
    rw [if_pos rfl, if_pos rfl]
    exact c_one
  · rw [if_neg e, if_neg (fun h => e h.symm), zer_at _ _ _ (by rw [zer_len]; exact hi), if_pos hi]
    exact c_zero
theorem uni_thr (p : List (Nat × Nat)) (k : Nat) (h : k < p.length) (t : K) : thr (kX (uni p k p[k].1)) (kY (uni p k p[k].1)) t = lag (kX p) k t := by
  have hX : kX (uni p k p[k].1) = kX p := by unfold kX; rw [uni_X p k h]
  rw [hX]
  unfold thr
  have gen : ∀ j, j ≤ p.length → thrL (kX p) (kY (uni p k p[k].1)) t j = if k < j then lag (kX p) k t else 0 := by
    intro j
    induction j with
    | zero => intro _; rw [if_neg (by omega)]; rfl
    | succ j ih =>
      intro hj
      rw [thrL, ih (by omega), uni_Y p k _ j (by omega)]
      by_cases e : j = k
      · subst e
        rw [if_neg (by omega), if_pos rfl, if_pos (by omega)]
        exact (show ∀ y : K, 0 + y * 1 = y from fun y => by grind) _
      · rw [if_neg e]
        by_cases h2 : k < j
        · rw [if_pos h2, if_pos (by omega)]
          exact (show ∀ y z : K, y + z * 0 = y from fun y z => by rw [k_mul_zero]; exact k_add_zero y) _ _
        · rw [if_neg h2, if_neg (by omega)]
          exact (show ∀ z : K, 0 + z * 0 = (0 : K) from fun z => by rw [k_mul_zero]; exact k_add_zero 0) _
  rw [kX_len, gen p.length (Nat.le_refl _), if_pos h]
/-- what the document tells of the k-th one is what the program's weights have at k -/
theorem uni_tells (fuel : Nat) (p : List (Nat × Nat)) (k : Nat) (h : k < p.length) (t : Nat) (hap : apC (pX p) = none) (hf : 6000 < fuel) : caucusref03_Through.f fuel (p69 (uni p k p[k].1)) (t : Int) = some (((lag (kX p) k (c t)).val : Int), 0) := by
  rw [rthrough_tells fuel _ t (by rw [uni_X p k h]; exact hap) hf, uni_thr p k h]
theorem wC_at (p : List (Nat × Nat)) (t k : Nat) (h : k < p.length) (hap : apC (pX p) = none) : (nl (wC (pX p) t)).getD k 0 = ((lag (kX p) k (c t)).val : Int) := by
  unfold wC
  rw [hap]
  show (nl (lags (kX p) (c t))).getD k 0 = _
  have h1 := lags_at (kX p) (c t) k (by rw [kX_len]; exact h)
  unfold rd at h1
  rw [Int.toNat_natCast] at h1
  exact h1
theorem wC_len (p : List (Nat × Nat)) (t : Nat) (hap : apC (pX p) = none) : (nl (wC (pX p) t)).length = p.length := by
  unfold wC
  rw [hap]
  show (nl (lags (kX p) (c t))).length = _
  rw [nl_len, lags_len, kX_len]
theorem wC_err (p : List (Nat × Nat)) (t : Nat) (e : Int) (hap : apC (pX p) = some e) : nl (wC (pX p) t) = [] := by
  unfold wC
  rw [hap]
  rfl
end Go.Proofs.YtbfgppecpkfcnaaDoor.PPoly
