/-
  What the program's functions of curves answer, points and all.
-/
import Derived.Test.YtbfgppecpkfcnaaDoorPolyFacts2
namespace Go.Proofs.YtbfgppecpkfcnaaDoor.PPoly
open Go.RowKit Go.Proofs.YtbfgppecpkfcnaaDoorW.PrintWords Go.Proofs.YtbfgppecpkfcnaaDoorW.PrintLast Go.Proofs.YtbfgppecpkfcnaaDoorW.PrintMore Go.Proofs.YtbfgppecpkfcnaaDoor.PFp Go.Proofs.YtbfgppecpkfcnaaDoor.Fq

/-! ### points -/
def p74 (p : List (Nat × Nat)) : List S74 := p.map fun s => ⟨(s.1 : Int), (s.2 : Int)⟩
def pX (p : List (Nat × Nat)) : List Nat := p.map (·.1)
def pY (p : List (Nat × Nat)) : List Nat := p.map (·.2)
def PtU (p : List (Nat × Nat)) : Prop := LtU (pX p) ∧ LtU (pY p)
theorem pX_len (p : List (Nat × Nat)) : (pX p).length = p.length := by simp [pX]
theorem pY_len (p : List (Nat × Nat)) : (pY p).length = p.length := by simp [pY]
theorem p74_len (p : List (Nat × Nat)) : (p74 p).length = p.length := by simp [p74]
theorem pX_take (p : List (Nat × Nat)) (n : Nat) : pX (p.take n) = (pX p).take n := by simp [pX, List.map_take]
theorem pY_take (p : List (Nat × Nat)) (n : Nat) : pY (p.take n) = (pY p).take n := by simp [pY, List.map_take]
theorem p74_take (p : List (Nat × Nat)) (n : Nat) : (p74 p).take n = p74 (p.take n) := by simp [p74, List.map_take]
theorem p74_drop (p : List (Nat × Nat)) (n : Nat) : (p74 p).drop n = p74 (p.drop n) := by simp [p74, List.map_drop]
theorem PtU.take {p : List (Nat × Nat)} (h : PtU p) (n : Nat) : PtU (p.take n) :=
  ⟨fun x hx => h.1 x (by rw [pX_take] at hx; exact List.mem_of_mem_take hx), fun x hx => h.2 x (by rw [pY_take] at hx; exact List.mem_of_mem_take hx)⟩
theorem PtU.at {p : List (Nat × Nat)} (h : PtU p) {s : Nat × Nat} (hs : s ∈ p) : s.1 < 18446744073709551616 ∧ s.2 < 18446744073709551616 :=
  ⟨h.1 _ (List.mem_map.2 ⟨s, hs, rfl⟩), h.2 _ (List.mem_map.2 ⟨s, hs, rfl⟩)⟩
theorem rd_p74 (p : List (Nat × Nat)) (j : Nat) (h : j < p.length) : rd_T74 (p74 p) (j : Int) = ⟨(p[j].1 : Int), (p[j].2 : Int)⟩ := by
  simp [rd_T74, p74, h]

theorem places_loop (p : List (Nat × Nat)) (hl : p.length ≤ 1000) (d : Nat) : ∀ (k j : Nat), j + d = p.length → d < k → poly_places.l0 k (nl (pX (p.take j))) (p74 p) (p.length : Int) (j : Int) = some (nl (pX p)) := by
  induction d with
  | zero =>
    intro k j hj hk
    obtain ⟨k, rfl⟩ : ∃ m, k = m + 1 := ⟨k - 1, by omega⟩
    simp only [poly_places.l0]
    rw [if_neg (by omega), List.take_of_length_le (by omega)]
  | succ d ih =>
    intro k j hj hk
    obtain ⟨k, rfl⟩ : ∃ m, k = m + 1 := ⟨k - 1, by omega⟩
    simp only [poly_places.l0]
    rw [if_pos (by omega), if_pos (by omega), if_pos (by rw [p74_len]; omega), if_pos (by rw [nl_len, pX_len, List.length_take]; omega), rd_p74 p j (by omega), wrap64_in' _ (by omega) (by omega), show ((j : Int) + 1) = ((j + 1 : Nat) : Int) by omega]
    have e : nl (pX (p.take (j + 1))) = nl (pX (p.take j)) ++ [((p[j]'(by omega)).1 : Int)] := by
      have e0 : p.take (j + 1) = p.take j ++ [p[j]'(by omega)] := by
        rw [List.take_add_one, List.getElem?_eq_getElem (show j < p.length by omega)]
        rfl
      rw [e0]
      unfold nl pX
      rw [List.map_append, List.map_append]
      rfl
    have h := ih k (j + 1) (by omega) (by omega)
    rw [e] at h
    exact h
theorem places_tells (k : Nat) (p : List (Nat × Nat)) (hl : p.length ≤ 1000) (hk : 1000 < k) : poly_places.f k (p74 p) = some (nl (pX p)) := by
  unfold poly_places.f
  rw [p74_len]
  have h := places_loop p hl p.length k 0 (by omega) (by omega)
  exact h

/-- the error that places make -/
def apC (L : List Nat) : Option Int := if 64 < L.length then some 1 else if (L.map c).Nodup then none else some 8
theorem nodup_c (L : List Nat) : ((nl L).map (· % 2305843009213693951)).Nodup ↔ (L.map c).Nodup := by
  unfold nl List.Nodup
  rw [List.pairwise_map, List.pairwise_map, List.pairwise_map]
  have h : ∀ a b : Nat, ((a : Int) % 2305843009213693951 ≠ (b : Int) % 2305843009213693951) ↔ c a ≠ c b := by
    intro a b
    refine not_congr ?_
    rw [c_iff]
    unfold PP
    omega
  simp only [h]
theorem inU_nl (L : List Nat) (h : LtU L) : Ap.InU (nl L) := by
  intro x hx
  obtain ⟨n, hn, rfl⟩ := List.mem_map.1 hx
  have := h n hn
  omega
theorem apart_tells (L : List Nat) (h : LtU L) : poly_apart.f (nl L) = some (apC L) := by
  unfold poly_apart.f apC
  rw [nl_len]
  split
  · rfl
  · rw [if_pos (inU_nl L h)]
    by_cases hn : (L.map c).Nodup
    · rw [if_pos hn, if_pos ((nodup_c L).2 hn)]
    · rw [if_neg hn, if_neg (fun h => hn ((nodup_c L).1 h))]
theorem apC_none {L : List Nat} (h : apC L = none) : L.length ≤ 64 ∧ (L.map c).Nodup := by
  unfold apC at h
  split at h
  · cases h
  · split at h
    · exact ⟨by omega, by assumption⟩
    · cases h
theorem apC_of {L : List Nat} (h : L.length ≤ 64) (hn : (L.map c).Nodup) : apC L = none := by
  unfold apC
  rw [if_neg (by omega), if_pos hn]
theorem weights_tells (k : Nat) (L : List Nat) (hU : LtU L) (t : Nat) (ht : t < 18446744073709551616) (h : apC L = none) (hk : 1300 < k) : poly_Weights.f k (nl L) (t : Int) = some (nl (lags (L.map c) (c t)), none) := by
  obtain ⟨hl, hn⟩ := apC_none h
  unfold poly_Weights.f
  rw [apart_tells L hU, h]
  simp only [obind]
  rw [if_pos (show (none : Option Int).isNone = true from rfl), nl_len]
  exact weights_loop L hU (by omega) t ht hn L.length k 0 (by omega) (by omega)
theorem weights_err (k : Nat) (L : List Nat) (hU : LtU L) (t : Nat) (e : Int) (h : apC L = some e) : poly_Weights.f k (nl L) (t : Int) = some ([], some e) := by
  unfold poly_Weights.f
  rw [apart_tells L hU, h]
  simp only [obind]
  rw [if_neg (by simp)]
  rfl
def kX (p : List (Nat × Nat)) : List K := (pX p).map c
def kY (p : List (Nat × Nat)) : List K := (pY p).map c
theorem kX_len (p : List (Nat × Nat)) : (kX p).length = p.length := by simp [kX, pX]
theorem kY_at (p : List (Nat × Nat)) (j : Nat) (h : j < p.length) : (kY p).getD j 0 = c p[j].2 := by simp [kY, pY, List.getD, h]
theorem kX_at (p : List (Nat × Nat)) (j : Nat) (h : j < p.length) : (kX p).getD j 0 = c p[j].1 := by simp [kX, pX, List.getD, h]
theorem lags_at (X : List K) (t : K) (j : Nat) (h : j < X.length) : rd (nl (lags X t)) (j : Int) = ((lag X j t).val : Int) := by
  rw [rd_nl _ j (by rw [lags_len]; exact h)]
  simp [lags]
theorem through_loop (p : List (Nat × Nat)) (hU : PtU p) (hl : p.length ≤ 1000) (t : K) (d : Nat) : ∀ (k o j : Nat), j + d = p.length → d < k → o < 2305843009213693951 → c o = thrL (kX p) (kY p) t j →
    poly_Through.l0 k (nl (lags (kX p) t)) (o : Int) (p74 p) (p.length : Int) (j : Int) = some (((thr (kX p) (kY p) t).val : Int), none) := by
  induction d with
  | zero =>
    intro k o j hj hk ho hc
    obtain ⟨k, rfl⟩ : ∃ m, k = m + 1 := ⟨k - 1, by omega⟩
    simp only [poly_Through.l0]
    rw [if_neg (by omega)]
    have hj' : j = p.length := by omega
    subst hj'
    have e : thrL (kX p) (kY p) t p.length = thr (kX p) (kY p) t := by unfold thr; rw [kX_len]
    rw [e] at hc
    rw [val_eq ho hc]
  | succ d ih =>
    intro k o j hj hk ho hc
    obtain ⟨k, rfl⟩ : ∃ m, k = m + 1 := ⟨k - 1, by omega⟩
    simp only [poly_Through.l0]
    have hlt : j < p.length := by omega
    rw [if_pos (by omega), if_pos (by omega), if_pos (by rw [p74_len]; omega), if_pos (by rw [nl_len, lags_len, kX_len]; omega), lags_at _ _ _ (by rw [kX_len]; exact hlt), rd_p74 p j hlt, mul_c _ _ (kv _) (hU.at (List.getElem_mem hlt)).2]
    simp only [obind]
    rw [add_c _ _ (by omega) (kv _)]
    simp only [obind]
    rw [wrap64_in' _ (by omega) (by omega), show ((j : Int) + 1) = ((j + 1 : Nat) : Int) by omega]
    refine ih k _ (j + 1) (by omega) (by omega) (kval_lt _) ?_
    rw [c_of_val, c_of_val, c_of_val, hc, thrL, kY_at p j hlt]
theorem through_tells (k : Nat) (p : List (Nat × Nat)) (hU : PtU p) (t : Nat) (ht : t < 18446744073709551616) (h : apC (pX p) = none) (hk : 1300 < k) : poly_Through.f k (p74 p) (t : Int) = some (((thr (kX p) (kY p) (c t)).val : Int), none) := by
  have hl := (apC_none h).1
  rw [pX_len] at hl
  unfold poly_Through.f
  rw [places_tells k p (by omega) (by omega)]
  simp only [obind]
  rw [weights_tells k (pX p) hU.1 t ht h hk]
  simp only [obind]
  rw [if_pos (show (none : Option Int).isNone = true from rfl), p74_len]
  exact through_loop p hU (by omega) (c t) p.length k 0 0 (by omega) (by omega) (by decide) c_zero
theorem through_err (k : Nat) (p : List (Nat × Nat)) (hU : PtU p) (hl : p.length ≤ 1000) (t : Nat) (e : Int) (h : apC (pX p) = some e) (hk : 1000 < k) : poly_Through.f k (p74 p) (t : Int) = some (0, some e) := by
  unfold poly_Through.f
  rw [places_tells k p hl hk]
  simp only [obind]
  rw [weights_err k (pX p) hU.1 t e h]
  simp only [obind]
  rw [if_neg (by simp)]
  rfl
theorem apC_take {L : List Nat} (h : apC L = none) (n : Nat) : apC (L.take n) = none := by
  obtain ⟨hl, hn⟩ := apC_none h
  refine apC_of (by rw [List.length_take]; omega) ?_
  rw [List.map_take]
  exact hn.sublist (List.take_sublist _ _)

/-- whether the points behind the first n lie on the curve of the first n -/
def lineB (p : List (Nat × Nat)) (n : Nat) : Bool := (p.drop n).all fun s => decide (thr (kX (p.take n)) (kY (p.take n)) (c s.1) = c s.2)
theorem of_c (n : Nat) (h : n < 18446744073709551616) : fp_Of.f (n : Int) = some ((c n).val : Int) := of_tells n h
theorem kval_iff (x y : K) : ((x.val : Int) = (y.val : Int)) ↔ x = y := by
  constructor
  · intro h; exact Fin.ext (by omega)
  · rintro rfl; rfl
theorem line_loop (p : List (Nat × Nat)) (hU : PtU p) (h : apC (pX p) = none) (n : Nat) (hn : n ≤ p.length) (d : Nat) : ∀ (k j : Nat), j + d = (p.drop n).length → d + 1300 < k →
    poly_Line.l0 k (p74 p) (n : Int) (p74 (p.drop n)) ((p.drop n).length : Int) (j : Int) = some (((p.drop n).drop j).all fun s => decide (thr (kX (p.take n)) (kY (p.take n)) (c s.1) = c s.2), none) := by
  have hl := (apC_none h).1
  rw [pX_len] at hl
  have hdl : (p.drop n).length ≤ 64 := by rw [List.length_drop]; omega
  have hap : apC (pX (p.take n)) = none := by rw [pX_take]; exact apC_take h n
  induction d with
  | zero =>
    intro k j hj hk
    obtain ⟨k, rfl⟩ : ∃ m, k = m + 1 := ⟨k - 1, by omega⟩
    simp only [poly_Line.l0]
    rw [if_neg (by omega), List.drop_of_length_le (by omega)]
    rfl
  | succ d ih =>
    intro k j hj hk
    obtain ⟨k, rfl⟩ : ∃ m, k = m + 1 := ⟨k - 1, by omega⟩
    simp only [poly_Line.l0]
    have hlt : j < (p.drop n).length := by omega
    have hm : (p.drop n)[j] ∈ p := List.mem_of_mem_drop (List.getElem_mem hlt)
    have hs := hU.at hm
    rw [if_pos (by omega), if_pos (by omega), if_pos (by rw [p74_len]; omega), if_pos (by omega), if_pos (by rw [p74_len]; omega), rd_p74 _ j hlt, Int.toNat_natCast, p74_take, through_tells k (p.take n) (hU.take n) _ hs.1 hap (by omega)]
    simp only [obind]
    rw [if_pos (show (none : Option Int).isNone = true from rfl), of_c _ hs.2]
    simp only [obind]
    rw [List.drop_eq_getElem_cons hlt, List.all_cons]
    by_cases he : thr (kX (p.take n)) (kY (p.take n)) (c (p.drop n)[j].1) = c (p.drop n)[j].2
    · rw [if_pos ((kval_iff _ _).2 he), decide_eq_true he, Bool.true_and, wrap64_in' _ (by omega) (by omega), show ((j : Int) + 1) = ((j + 1 : Nat) : Int) by omega]
      exact ih k (j + 1) (by omega) (by omega)
    · rw [if_neg (fun h => he ((kval_iff _ _).1 h)), decide_eq_false he, Bool.false_and]
def firsts (p : List (Nat × Nat)) (m : Int) : Nat := (mn m (p.length : Int)).toNat
theorem firsts_le (p : List (Nat × Nat)) (m : Int) (h0 : 0 ≤ m) : ((firsts p m : Nat) : Int) = mn m (p.length : Int) ∧ firsts p m ≤ p.length := by
  unfold firsts mn
  split <;> omega
/-- what is told of a line -/
def lineC (p : List (Nat × Nat)) (m : Int) : Bool × Option Int := if m < 0 ∨ 64 < p.length then (false, some 1) else match apC (pX p) with | some e => (false, some e) | none => (lineB p (firsts p m), none)
theorem line_tells (k : Nat) (p : List (Nat × Nat)) (hU : PtU p) (m : Int) (hk : 1500 < k) : poly_Line.f k (p74 p) m = some (lineC p m) := by
  obtain ⟨k, rfl⟩ : ∃ m, k = m + 1 := ⟨k - 1, by omega⟩
  unfold poly_Line.f lineC
  rw [p74_len]
  by_cases h0 : m < 0
  · rw [if_pos h0, if_pos (Or.inl h0)]
    simp only [poly_Line.j0]
    rfl
  · rw [if_neg h0]
    by_cases hb : 64 < p.length
    · rw [if_pos (Or.inr hb), decide_eq_true (by omega)]
      simp only [poly_Line.j0]
      rfl
    · rw [if_neg (by omega), decide_eq_false (by omega)]
      simp only [poly_Line.j0]
      rw [if_neg (by simp), places_tells k p (by omega) (by omega)]
      simp only [obind]
      rw [apart_tells _ hU.1]
      simp only [obind]
      cases ha : apC (pX p) with
      | some e =>
        rw [if_neg (by simp)]
        rfl
      | none =>
        obtain ⟨e1, e2⟩ := firsts_le p m (by omega)
        rw [if_pos (show (none : Option Int).isNone = true from rfl), p74_len, ← e1, if_pos (by omega), if_pos (by omega)]
        rw [Int.toNat_natCast, p74_drop, p74_len]
        have hd : (p.drop (firsts p m)).length ≤ 64 := by rw [List.length_drop]; omega
        have h := line_loop p hU ha (firsts p m) e2 (p.drop (firsts p m)).length k 0 (by omega) (by omega)
        exact h
end Go.Proofs.YtbfgppecpkfcnaaDoor.PPoly
