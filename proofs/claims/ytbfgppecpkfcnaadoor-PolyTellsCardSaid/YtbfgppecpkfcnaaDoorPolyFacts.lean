/-
  What the printed functions of poly and of its reference answer, in the field: values of curves, weights.
-/
import Derived.Test.YtbfgppecpkfcnaaDoorPPolyx2
import Derived.Test.YtbfgppecpkfcnaaDoorPPolyx4
namespace Go.Proofs.YtbfgppecpkfcnaaDoor.PPoly
open Go.RowKit Go.Proofs.YtbfgppecpkfcnaaDoorW.PrintWords Go.Proofs.YtbfgppecpkfcnaaDoorW.PrintLast Go.Proofs.YtbfgppecpkfcnaaDoorW.PrintMore Go.Proofs.YtbfgppecpkfcnaaDoor.PFp Go.Proofs.YtbfgppecpkfcnaaDoor.Fq

def nl (L : List Nat) : List Int := L.map fun (n : Nat) => (n : Int)
def LtU (L : List Nat) : Prop := ∀ x ∈ L, x < 18446744073709551616
theorem nl_len (L : List Nat) : (nl L).length = L.length := by simp [nl]
theorem rd_nl (L : List Nat) (j : Nat) (h : j < L.length) : rd (nl L) (j : Int) = (L[j] : Int) := by
  simp [rd, nl, h]
theorem LtU.at {L : List Nat} (h : LtU L) (j : Nat) (hj : j < L.length) : L[j] < 18446744073709551616 := h _ (List.getElem_mem _)
theorem kv (x : K) : x.val < 18446744073709551616 := Nat.lt_trans x.isLt (by decide)
theorem drop_c (L : List Nat) (j : Nat) (h : j < L.length) : (L.drop j).map c = c L[j] :: (L.drop (j + 1)).map c := by
  rw [List.drop_eq_getElem_cons h]
  rfl

theorem eval_loop (L : List Nat) (hU : LtU L) (hl : L.length ≤ 1000) (x : Nat) (hx : x < 18446744073709551616) (j : Nat) : ∀ (k o : Nat), j ≤ L.length → j < k → o < 2305843009213693951 → c o = ev ((L.drop j).map c) (c x) →
    poly_Eval.l0 k (nl L) (x : Int) (o : Int) ((j : Int) - 1) = some ((ev (L.map c) (c x)).val : Int) := by
  induction j with
  | zero =>
    intro k o _ hk ho hc
    obtain ⟨k, rfl⟩ : ∃ m, k = m + 1 := ⟨k - 1, by omega⟩
    simp only [poly_Eval.l0]
    rw [if_neg (by omega)]
    rw [List.drop_zero] at hc
    rw [val_eq ho hc]
  | succ j ih =>
    intro k o hj hk ho hc
    obtain ⟨k, rfl⟩ : ∃ m, k = m + 1 := ⟨k - 1, by omega⟩
    have e1 : (((j + 1 : Nat) : Int) - 1) = (j : Int) := by omega
    rw [e1]
    simp only [poly_Eval.l0]
    rw [if_pos (by omega), mul_c o x (by omega) hx]
    simp only [obind]
    rw [if_pos (by omega), if_pos (by rw [nl_len]; omega), rd_nl L j (by omega), add_c _ _ (kv _) (hU.at j (by omega))]
    simp only [obind]
    rw [wrap64_in' _ (by omega) (by omega)]
    refine ih k _ (by omega) (by omega) (kval_lt _) ?_
    rw [c_of_val, c_of_val, drop_c L j (by omega), hc]
    simp only [ev]
    grind
theorem eval_tells (k : Nat) (L : List Nat) (hU : LtU L) (hl : L.length ≤ 1000) (x : Nat) (hx : x < 18446744073709551616) (hk : 1000 < k) : poly_Eval.f k (nl L) (x : Int) = some ((ev (L.map c) (c x)).val : Int) := by
  unfold poly_Eval.f
  rw [nl_len, wrap64_in' _ (by omega) (by omega)]
  refine eval_loop L hU hl x hx L.length k 0 (by omega) (by omega) (by decide) ?_
  rw [List.drop_of_length_le (by omega)]
  rfl

theorem reval_loop (L : List Nat) (x : Nat) (hl : L.length ≤ 1000) (d : Nat) : ∀ (k o p j : Nat), L.length ≤ j + d → j ≤ L.length → d + 400 < k → o < 2305843009213693951 → p < 2305843009213693951 → c o + c p * ev ((L.drop j).map c) (c x) = ev (L.map c) (c x) →
    caucusref03_Eval.l0 k (nl L) (x : Int) (o : Int) (p : Int) (j : Int) = some ((ev (L.map c) (c x)).val : Int) := by
  induction d with
  | zero =>
    intro k o p j hd hj hk ho hp hc
    obtain ⟨k, rfl⟩ : ∃ m, k = m + 1 := ⟨k - 1, by omega⟩
    simp only [caucusref03_Eval.l0]
    rw [if_neg (by rw [nl_len]; omega)]
    rw [List.drop_of_length_le (by omega)] at hc
    simp only [List.map_nil, ev] at hc
    have hco : c o = ev (L.map c) (c x) := by rw [← hc]; grind
    rw [val_eq ho hco]
  | succ d ih =>
    intro k o p j hd hj hk ho hp hc
    obtain ⟨k, rfl⟩ : ∃ m, k = m + 1 := ⟨k - 1, by omega⟩
    by_cases hlt : j < L.length
    · simp only [caucusref03_Eval.l0]
      rw [if_pos (by rw [nl_len]; omega), if_pos (by omega), rd_nl L j hlt, rmul_c k _ _ (by omega)]
      simp only [obind]
      rw [radd_c]
      simp only [obind]
      rw [rmul_c k _ _ (by omega)]
      simp only [obind]
      rw [wrap64_in' _ (by omega) (by omega), show ((j : Int) + 1) = ((j + 1 : Nat) : Int) by omega]
      refine ih k _ _ (j + 1) (by omega) (by omega) (by omega) (kval_lt _) (kval_lt _) ?_
      rw [c_of_val, c_of_val, c_of_val, ← hc, drop_c L j hlt]
      simp only [ev]
      grind
    · simp only [caucusref03_Eval.l0]
      rw [if_neg (by rw [nl_len]; omega)]
      rw [List.drop_of_length_le (by omega)] at hc
      simp only [List.map_nil, ev] at hc
      have hco : c o = ev (L.map c) (c x) := by rw [← hc]; grind
      rw [val_eq ho hco]
theorem reval_tells (k : Nat) (L : List Nat) (hl : L.length ≤ 1000) (x : Nat) (hk : 1500 < k) : caucusref03_Eval.f k (nl L) (x : Int) = some ((ev (L.map c) (c x)).val : Int) := by
  unfold caucusref03_Eval.f
  refine reval_loop L x hl L.length k 0 1 0 (by omega) (by omega) (by omega) (by decide) (by decide) ?_
  rw [List.drop_zero, c_zero, c_one]
  grind

/-! ### weights -/
/-- the product of t less the places ahead of j, but for the i-th -/
def pr (X : List K) (i : Nat) (t : K) : Nat → K
  | 0 => 1
  | j + 1 => if j = i then pr X i t j else pr X i t j * (t - X.getD j 0)
def lag (X : List K) (i : Nat) (t : K) : K := pr X i t X.length * kinv (pr X i (X.getD i 0) X.length)
theorem pr_ne (X : List K) (i : Nat) (hi : i < X.length) (hn : X.Nodup) : ∀ j, j ≤ X.length → pr X i (X.getD i 0) j ≠ 0 := by
  intro j
  induction j with
  | zero => intro _; exact one_ne
  | succ j ih =>
    intro hj
    unfold pr
    split
    · exact ih (by omega)
    · rename_i hne
      intro h
      rcases no_zero _ _ h with h | h
      · exact ih (by omega) h
      · have e : X.getD i 0 = X.getD j 0 := by grind
        rw [List.getD_eq_getElem?_getD, List.getD_eq_getElem?_getD, List.getElem?_eq_getElem hi, List.getElem?_eq_getElem (by omega)] at e
        simp only [Option.getD_some] at e
        have hp := List.pairwise_iff_getElem.1 hn
        rcases Nat.lt_or_ge i j with h1 | h1
        · exact hp i j hi (by omega) h1 e
        · exact hp j i (by omega) hi (by omega) e.symm
theorem getD_c (L : List Nat) (j : Nat) (hj : j < L.length) : (L.map c).getD j 0 = c L[j] := by
  simp [List.getD, hj]
theorem weight_loop (L : List Nat) (hU : LtU L) (hl : L.length ≤ 1000) (i : Nat) (hi : i < L.length) (t : Nat) (ht : t < 18446744073709551616) (hne : pr (L.map c) i ((L.map c).getD i 0) L.length ≠ 0) (d : Nat) :
    ∀ (k u v j : Nat), L.length ≤ j + d → j ≤ L.length → d + 70 < k → u < 2305843009213693951 → v < 2305843009213693951 → c u = pr (L.map c) i (c t) j → c v = pr (L.map c) i ((L.map c).getD i 0) j →
    poly_weight.l0 k (nl L) (i : Int) (t : Int) (u : Int) (v : Int) (nl L) (L.length : Int) (j : Int) = some (((lag (L.map c) i (c t)).val : Int), none) := by
  induction d with
  | zero =>
    intro k u v j hd hj hk hu hv h1 h2
    obtain ⟨k, rfl⟩ : ∃ m, k = m + 1 := ⟨k - 1, by omega⟩
    obtain rfl : j = L.length := by omega
    simp only [poly_weight.l0]
    rw [if_neg (by omega), div_tells k u v (by omega) (by omega) (fun h => hne (by rw [← h2]; exact c_eq_zero.2 h)) (by omega)]
    simp only [obind]
    rw [h1, h2]
    unfold lag
    rw [List.length_map]
  | succ d ih =>
    intro k u v j hd hj hk hu hv h1 h2
    obtain ⟨k, rfl⟩ : ∃ m, k = m + 1 := ⟨k - 1, by omega⟩
    by_cases hlt : j < L.length
    · simp only [poly_weight.l0]
      rw [if_pos (by omega), if_pos (by omega), if_pos (by rw [nl_len]; omega), wrap64_in' _ (by omega) (by omega), show ((j : Int) + 1) = ((j + 1 : Nat) : Int) by omega]
      by_cases he : j = i
      · rw [if_pos (by omega)]
        refine ih k u v (j + 1) (by omega) (by omega) (by omega) hu hv ?_ ?_
        · rw [h1, pr, if_pos he]
        · rw [h2, pr, if_pos he]
      · rw [if_neg (by omega), rd_nl L j hlt, sub_c _ _ ht (hU.at j hlt)]
        simp only [obind]
        rw [mul_c _ _ (by omega) (kv _)]
        simp only [obind]
        rw [if_pos (by omega), if_pos (by rw [nl_len]; omega), rd_nl L i hi, sub_c _ _ (hU.at i hi) (hU.at j hlt)]
        simp only [obind]
        rw [mul_c _ _ (by omega) (kv _)]
        simp only [obind]
        refine ih k _ _ (j + 1) (by omega) (by omega) (by omega) (kval_lt _) (kval_lt _) ?_ ?_
        · rw [c_of_val, c_of_val, h1, pr, if_neg he, getD_c L j hlt]
        · rw [c_of_val, c_of_val, h2, pr, if_neg he, getD_c L j hlt, getD_c L i hi]
    · obtain rfl : j = L.length := by omega
      simp only [poly_weight.l0]
      rw [if_neg (by omega), div_tells k u v (by omega) (by omega) (fun h => hne (by rw [← h2]; exact c_eq_zero.2 h)) (by omega)]
      simp only [obind]
      rw [h1, h2]
      unfold lag
      rw [List.length_map]
theorem weight_tells (k : Nat) (L : List Nat) (hU : LtU L) (hl : L.length ≤ 1000) (i : Nat) (hi : i < L.length) (t : Nat) (ht : t < 18446744073709551616) (hn : (L.map c).Nodup) (hk : 1100 < k) :
    poly_weight.f k (nl L) (i : Int) (t : Int) = some (((lag (L.map c) i (c t)).val : Int), none) := by
  unfold poly_weight.f
  rw [nl_len]
  have hne := pr_ne (L.map c) i (by simpa using hi) hn L.length (by simp)
  exact weight_loop L hU hl i hi t ht hne L.length k 1 1 0 (by omega) (by omega) (by omega) (by decide) (by decide) c_one c_one
def lags (X : List K) (t : K) : List Nat := (List.range X.length).map fun i => (lag X i t).val
theorem lags_len (X : List K) (t : K) : (lags X t).length = X.length := by simp [lags]
theorem weights_loop (L : List Nat) (hU : LtU L) (hl : L.length ≤ 1000) (t : Nat) (ht : t < 18446744073709551616) (hn : (L.map c).Nodup) (d : Nat) : ∀ (k j : Nat), j + d = L.length → d + 1200 < k →
    poly_Weights.l0 k (nl L) (t : Int) (nl ((List.range j).map fun i => (lag (L.map c) i (c t)).val)) (L.length : Int) (j : Int) = some (nl (lags (L.map c) (c t)), none) := by
  induction d with
  | zero =>
    intro k j hj hk
    obtain ⟨k, rfl⟩ : ∃ m, k = m + 1 := ⟨k - 1, by omega⟩
    obtain rfl : j = L.length := by omega
    simp only [poly_Weights.l0]
    rw [if_neg (by omega)]
    unfold lags
    rw [List.length_map]
  | succ d ih =>
    intro k j hj hk
    obtain ⟨k, rfl⟩ : ∃ m, k = m + 1 := ⟨k - 1, by omega⟩
    simp only [poly_Weights.l0]
    rw [if_pos (by omega), weight_tells k L hU hl j (by omega) t ht hn (by omega)]
    simp only [obind]
    rw [if_pos (show (none : Option Int).isNone = true from rfl), if_pos (by rw [nl_len]; simp; omega), wrap64_in' _ (by omega) (by omega), show ((j : Int) + 1) = ((j + 1 : Nat) : Int) by omega]
    have h := ih k (j + 1) (by omega) (by omega)
    rw [List.range_succ, List.map_append] at h
    have e : nl (((List.range j).map fun i => (lag (L.map c) i (c t)).val) ++ [j].map fun i => (lag (L.map c) i (c t)).val) = nl ((List.range j).map fun i => (lag (L.map c) i (c t)).val) ++ [((lag (L.map c) j (c t)).val : Int)] := by
      unfold nl
      rw [List.map_append]
      rfl
    rw [e] at h
    exact h
end Go.Proofs.YtbfgppecpkfcnaaDoor.PPoly
