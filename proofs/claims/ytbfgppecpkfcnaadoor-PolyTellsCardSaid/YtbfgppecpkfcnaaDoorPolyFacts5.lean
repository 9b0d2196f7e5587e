/-
  What the document's functions of curves answer, put together; and what a curve's own points tell.
-/
import Derived.Test.YtbfgppecpkfcnaaDoorPolyFacts4
namespace Go.Proofs.YtbfgppecpkfcnaaDoor.PPoly
open Go.RowKit Go.Proofs.YtbfgppecpkfcnaaDoorW.PrintWords Go.Proofs.YtbfgppecpkfcnaaDoorW.PrintLast Go.Proofs.YtbfgppecpkfcnaaDoorW.PrintMore Go.Proofs.YtbfgppecpkfcnaaDoor.PFp Go.Proofs.YtbfgppecpkfcnaaDoor.Fq

theorem rthrough_tells (k : Nat) (p : List (Nat × Nat)) (t : Nat) (h : apC (pX p) = none) (hk : 6000 < k) : caucusref03_Through.f k (p69 p) (t : Int) = some (((thr (kX p) (kY p) (c t)).val : Int), 0) := by
  have hl := (kX_apart h).1
  unfold caucusref03_Through.f
  rw [xs_tells k p (by omega) (by omega)]
  simp only [obind]
  rw [rapart_tells k _ (by omega), h]
  simp only [obind]
  rw [if_pos (show (none : Option Int).getD 0 = 0 from rfl)]
  exact rthrough_loop p h t p.length k [] (by simp) (by omega) ⟨by simp, fun m hm => by simp at hm⟩
theorem rthrough_err (k : Nat) (p : List (Nat × Nat)) (hl : p.length ≤ 1000) (t : Nat) (e : Int) (h : apC (pX p) = some e) (hk : 6000 < k) : caucusref03_Through.f k (p69 p) (t : Int) = some (0, e) := by
  have he := apC_pos h
  unfold caucusref03_Through.f
  rw [xs_tells k p hl (by omega)]
  simp only [obind]
  rw [rapart_tells k _ (by omega), h]
  simp only [obind]
  rw [if_neg (by show ¬ e = 0; omega)]
  rfl
theorem rline_loop (p : List (Nat × Nat)) (h : apC (pX p) = none) (n : Nat) (hn : n ≤ p.length) (d : Nat) : ∀ (k j : Nat), j + d = (p.drop n).length → d + 6000 < k →
    caucusref03_Line.l0 k (p69 p) (n : Int) ((n + j : Nat) : Int) = some (((p.drop n).drop j).all fun s => decide (thr (kX (p.take n)) (kY (p.take n)) (c s.1) = c s.2), 0) := by
  have hl := (kX_apart h).1
  have hdl : (p.drop n).length = p.length - n := by rw [List.length_drop]
  have hap : apC (pX (p.take n)) = none := by rw [pX_take]; exact apC_take h n
  induction d with
  | zero =>
    intro k j hj hk
    obtain ⟨k, rfl⟩ : ∃ m, k = m + 1 := ⟨k - 1, by omega⟩
    simp only [caucusref03_Line.l0]
    rw [if_neg (by rw [p69_len]; omega), List.drop_of_length_le (by omega)]
    rfl
  | succ d ih =>
    intro k j hj hk
    obtain ⟨k, rfl⟩ : ∃ m, k = m + 1 := ⟨k - 1, by omega⟩
    simp only [caucusref03_Line.l0]
    have hlt : j < (p.drop n).length := by omega
    have hnj : n + j < p.length := by omega
    have e0 : (p.drop n)[j] = p[n + j] := by rw [List.getElem_drop]
    rw [if_pos (by rw [p69_len]; omega), if_pos (by omega), if_pos (by rw [p69_len]; omega), if_pos (by omega), rd_p69 p _ hnj, Int.toNat_natCast, p69_take, rthrough_tells k (p.take n) _ hap (by omega)]
    simp only [obind]
    rw [tmod_P, List.drop_eq_getElem_cons hlt, List.all_cons, e0]
    have hcv : ((p[n + j].2 % PP : Nat) : Int) = ((c p[n + j].2).val : Int) := rfl
    rw [hcv]
    by_cases he : thr (kX (p.take n)) (kY (p.take n)) (c p[n + j].1) = c p[n + j].2
    · rw [if_pos ((kval_iff _ _).2 he), decide_eq_true he, Bool.true_and, wrap64_in' _ (by omega) (by omega), show (((n + j : Nat) : Int) + 1) = ((n + (j + 1) : Nat) : Int) by omega]
      exact ih k (j + 1) (by omega) (by omega)
    · rw [if_neg (fun h => he ((kval_iff _ _).1 h)), decide_eq_false he, Bool.false_and]
theorem rline_tells (k : Nat) (p : List (Nat × Nat)) (m : Int) (hk : 6200 < k) : caucusref03_Line.f k (p69 p) m = some ((lineC p m).1, (lineC p m).2.getD 0) := by
  obtain ⟨k, rfl⟩ : ∃ m, k = m + 1 := ⟨k - 1, by omega⟩
  unfold caucusref03_Line.f lineC
  rw [p69_len]
  by_cases h0 : m < 0
  · rw [if_pos h0, if_pos (Or.inl h0)]
    simp only [caucusref03_Line.j0]
    rfl
  · rw [if_neg h0]
    by_cases hb : 64 < p.length
    · rw [if_pos (Or.inr hb), decide_eq_true (by omega)]
      simp only [caucusref03_Line.j0]
      rfl
    · rw [if_neg (by omega), decide_eq_false (by omega)]
      simp only [caucusref03_Line.j0]
      rw [if_neg (by simp), xs_tells k p (by omega) (by omega)]
      simp only [obind]
      rw [rapart_tells k _ (by omega)]
      simp only [obind]
      cases ha : apC (pX p) with
      | some e =>
        have he := apC_pos ha
        rw [if_neg (by show ¬ e = 0; omega)]
      | none =>
        obtain ⟨e1, e2⟩ := firsts_le p m (by omega)
        rw [if_pos (show (none : Option Int).getD 0 = 0 from rfl), p69_len, ← e1]
        have hd : (p.drop (firsts p m)).length ≤ 64 := by rw [List.length_drop]; omega
        have h := rline_loop p ha (firsts p m) e2 (p.drop (firsts p m)).length k 0 (by omega) (by omega)
        exact h

/-! ### what points tell, whatever they are -/
def thrC (p : List (Nat × Nat)) (t : Nat) : Nat × Option Int := match apC (pX p) with | some e => (0, some e) | none => ((thr (kX p) (kY p) (c t)).val, none)
theorem through_all (k : Nat) (p : List (Nat × Nat)) (hU : PtU p) (hl : p.length ≤ 1000) (t : Nat) (ht : t < 18446744073709551616) (hk : 1300 < k) : poly_Through.f k (p74 p) (t : Int) = some (((thrC p t).1 : Int), (thrC p t).2) := by
  unfold thrC
  cases h : apC (pX p) with
  | some e => exact through_err k p hU hl t e h (by omega)
  | none => exact through_tells k p hU t ht h hk
theorem rthrough_all (k : Nat) (p : List (Nat × Nat)) (hl : p.length ≤ 1000) (t : Nat) (hk : 6000 < k) : caucusref03_Through.f k (p69 p) (t : Int) = some (((thrC p t).1 : Int), (thrC p t).2.getD 0) := by
  unfold thrC
  cases h : apC (pX p) with
  | some e => exact rthrough_err k p hl t e h hk
  | none => exact rthrough_tells k p t h hk
def wC (L : List Nat) (t : Nat) : List Nat := match apC L with | some _ => [] | none => lags (L.map c) (c t)
theorem weights_all (k : Nat) (L : List Nat) (hU : LtU L) (t : Nat) (ht : t < 18446744073709551616) (hk : 1300 < k) : poly_Weights.f k (nl L) (t : Int) = some (nl (wC L t), apC L) := by
  unfold wC
  cases h : apC L with
  | some e => exact weights_err k L hU t e h
  | none => exact weights_tells k L hU t ht h hk
theorem thrC_err (p : List (Nat × Nat)) (t : Nat) : (thrC p t).2 = apC (pX p) := by
  unfold thrC
  cases h : apC (pX p) <;> rfl

/-! ### a point of a curve's own -/
/-- Points of the curve C tell it anywhere. -/
theorem thr_curve (C : List K) (p : List (Nat × Nat)) (hn : (kX p).Nodup) (hl : C.length ≤ p.length) (h : ∀ s ∈ p, c s.2 = ev C (c s.1)) (t : K) : thr (kX p) (kY p) t = ev C t := by
  have hD : D (kX p).length (ev C) := by
    rw [kX_len]
    refine ⟨C ++ List.replicate (p.length - C.length) 0, by simp; omega, fun x => ?_⟩
    have hz : ∀ (A : List K) (n : Nat) (x : K), ev (A ++ List.replicate n 0) x = ev A x := by
      intro A n x
      induction A with
      | nil => rw [List.nil_append, ev_zeros]; rfl
      | cons a A ih => rw [List.cons_append, ev, ev, ih]
    exact (hz C _ x).symm
  refine (thr_uniq (kX p) (kY p) hn (ev C) hD (fun m hm => ?_) t).symm
  rw [kX_len] at hm
  rw [kX_at p m hm, kY_at p m hm]
  exact (h _ (List.getElem_mem hm)).symm
end Go.Proofs.YtbfgppecpkfcnaaDoor.PPoly
