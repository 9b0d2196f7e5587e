/-
  What the document's functions of curves answer: the same.
-/
import Derived.Test.YtbfgppecpkfcnaaDoorPolyFacts3
namespace Go.Proofs.YtbfgppecpkfcnaaDoor.PPoly
open Go.RowKit Go.Proofs.YtbfgppecpkfcnaaDoorW.PrintWords Go.Proofs.YtbfgppecpkfcnaaDoorW.PrintLast Go.Proofs.YtbfgppecpkfcnaaDoorW.PrintMore Go.Proofs.YtbfgppecpkfcnaaDoor.PFp Go.Proofs.YtbfgppecpkfcnaaDoor.Fq

def p69 (p : List (Nat × Nat)) : List S69 := p.map fun s => ⟨(s.1 : Int), (s.2 : Int)⟩
theorem p69_len (p : List (Nat × Nat)) : (p69 p).length = p.length := by simp [p69]
theorem p69_take (p : List (Nat × Nat)) (n : Nat) : (p69 p).take n = p69 (p.take n) := by simp [p69, List.map_take]
theorem rd_p69 (p : List (Nat × Nat)) (j : Nat) (h : j < p.length) : rd_T69 (p69 p) (j : Int) = ⟨(p[j].1 : Int), (p[j].2 : Int)⟩ := by
  simp [rd_T69, p69, h]
theorem take_next {α : Type} (p : List α) (j : Nat) (h : j < p.length) : p.take (j + 1) = p.take j ++ [p[j]] := by
  rw [List.take_add_one, List.getElem?_eq_getElem h]
  rfl

theorem give_loop (p : List (Nat × Nat)) (hl : p.length ≤ 1000) (d : Nat) : ∀ (k j : Nat), j + d = p.length → d < k → caucuslaw03_giveShares.l0 k (p69 p) (p74 (p.take j)) (j : Int) = some (p74 p) := by
  induction d with
  | zero =>
    intro k j hj hk
    obtain ⟨k, rfl⟩ : ∃ m, k = m + 1 := ⟨k - 1, by omega⟩
    simp only [caucuslaw03_giveShares.l0]
    rw [if_neg (by rw [p69_len]; omega), List.take_of_length_le (by omega)]
  | succ d ih =>
    intro k j hj hk
    obtain ⟨k, rfl⟩ : ∃ m, k = m + 1 := ⟨k - 1, by omega⟩
    simp only [caucuslaw03_giveShares.l0]
    have hlt : j < p.length := by omega
    rw [if_pos (by rw [p69_len]; omega), if_pos (by omega), if_pos (by rw [p74_len, List.length_take]; omega), rd_p69 p j hlt, wrap64_in' _ (by omega) (by omega), show ((j : Int) + 1) = ((j + 1 : Nat) : Int) by omega]
    have e : p74 (p.take (j + 1)) = p74 (p.take j) ++ [(⟨(p[j].1 : Int), (p[j].2 : Int)⟩ : S74)] := by
      rw [take_next p j hlt]
      unfold p74
      rw [List.map_append]
      rfl
    have h := ih k (j + 1) (by omega) (by omega)
    rw [e] at h
    exact h
theorem give_tells (k : Nat) (p : List (Nat × Nat)) (hl : p.length ≤ 1000) (hk : 1000 < k) : caucuslaw03_giveShares.f k (p69 p) = some (p74 p) := by
  unfold caucuslaw03_giveShares.f
  exact give_loop p hl p.length k 0 (by omega) (by omega)
theorem xs_loop (p : List (Nat × Nat)) (hl : p.length ≤ 1000) (d : Nat) : ∀ (k j : Nat), j + d = p.length → d < k → caucusref03_xs.l0 k (p69 p) (nl (pX (p.take j))) (j : Int) = some (nl (pX p)) := by
  induction d with
  | zero =>
    intro k j hj hk
    obtain ⟨k, rfl⟩ : ∃ m, k = m + 1 := ⟨k - 1, by omega⟩
    simp only [caucusref03_xs.l0]
    rw [if_neg (by rw [p69_len]; omega), List.take_of_length_le (by omega)]
  | succ d ih =>
    intro k j hj hk
    obtain ⟨k, rfl⟩ : ∃ m, k = m + 1 := ⟨k - 1, by omega⟩
    simp only [caucusref03_xs.l0]
    have hlt : j < p.length := by omega
    rw [if_pos (by rw [p69_len]; omega), if_pos (by omega), if_pos (by rw [nl_len, pX_len, List.length_take]; omega), rd_p69 p j hlt, wrap64_in' _ (by omega) (by omega), show ((j : Int) + 1) = ((j + 1 : Nat) : Int) by omega]
    have e : nl (pX (p.take (j + 1))) = nl (pX (p.take j)) ++ [(p[j].1 : Int)] := by
      rw [take_next p j hlt]
      unfold nl pX
      rw [List.map_append, List.map_append]
      rfl
    have h := ih k (j + 1) (by omega) (by omega)
    rw [e] at h
    exact h
theorem xs_tells (k : Nat) (p : List (Nat × Nat)) (hl : p.length ≤ 1000) (hk : 1000 < k) : caucusref03_xs.f k (p69 p) = some (nl (pX p)) := by
  unfold caucusref03_xs.f
  exact xs_loop p hl p.length k 0 (by omega) (by omega)

/-! ### may these be places -/
theorem nodup_next (L : List Nat) (i : Nat) (hi : i < L.length) : ((L.take (i + 1)).map c).Nodup ↔ ((L.take i).map c).Nodup ∧ ∀ q, (hq : q < i) → c (L[q]'(by omega)) ≠ c L[i] := by
  rw [take_next L i hi, List.map_append, List.nodup_append]
  constructor
  · rintro ⟨h1, _, h3⟩
    refine ⟨h1, fun q hq => ?_⟩
    refine h3 _ ?_ _ (by simp)
    exact List.mem_map.2 ⟨L[q], List.mem_take_iff_getElem.2 ⟨q, by omega, rfl⟩, rfl⟩
  · rintro ⟨h1, h2⟩
    refine ⟨h1, by simp, fun a ha b hb => ?_⟩
    simp only [List.map_cons, List.map_nil, List.mem_singleton] at hb
    subst hb
    obtain ⟨y, hy, rfl⟩ := List.mem_map.1 ha
    obtain ⟨q, hq, rfl⟩ := List.mem_take_iff_getElem.1 hy
    exact h2 q (by omega)
theorem nodup_upto (L : List Nat) (i : Nat) (h : (L.map c).Nodup) : ((L.take i).map c).Nodup := by
  rw [List.map_take]
  exact h.sublist (List.take_sublist _ _)
theorem rapart_loop (L : List Nat) (hl : L.length ≤ 64) (d : Nat) : ∀ (k i : Nat), i + d = L.length → 70 * d < k → ((L.take i).map c).Nodup → caucusref03_Apart.l0 k (nl L) (i : Int) = some (if (L.map c).Nodup then 0 else 8) := by
  induction d with
  | zero =>
    intro k i hi hk hn
    obtain ⟨k, rfl⟩ : ∃ m, k = m + 1 := ⟨k - 1, by omega⟩
    simp only [caucusref03_Apart.l0]
    rw [List.take_of_length_le (by omega)] at hn
    rw [if_neg (by rw [nl_len]; omega), if_pos hn]
  | succ d ih =>
    intro k i hi hk hn
    obtain ⟨k, rfl⟩ : ∃ m, k = m + 1 := ⟨k - 1, by omega⟩
    simp only [caucusref03_Apart.l0]
    have hlt : i < L.length := by omega
    rw [if_pos (by rw [nl_len]; omega)]
    have inner : ∀ (e k j : Nat), j + e = i → 70 * d + e + 1 < k → (∀ q, (hq : q < j) → (hji : j ≤ i) → c (L[q]'(by omega)) ≠ c L[i]) → caucusref03_Apart.l1 k (nl L) (i : Int) (j : Int) = some (if (L.map c).Nodup then 0 else 8) := by
      intro e
      induction e with
      | zero =>
        intro k j hj hk hq
        obtain ⟨k, rfl⟩ : ∃ m, k = m + 1 := ⟨k - 1, by omega⟩
        simp only [caucusref03_Apart.l1]
        rw [if_neg (by omega), wrap64_in' _ (by omega) (by omega), show ((i : Int) + 1) = ((i + 1 : Nat) : Int) by omega]
        exact ih k (i + 1) (by omega) (by omega) ((nodup_next L i hlt).2 ⟨hn, fun q h => hq q (by omega) (by omega)⟩)
      | succ e ihe =>
        intro k j hj hk hq
        obtain ⟨k, rfl⟩ : ∃ m, k = m + 1 := ⟨k - 1, by omega⟩
        simp only [caucusref03_Apart.l1]
        rw [if_pos (by omega), if_pos (by omega), if_pos (by rw [nl_len]; omega), if_pos (by omega), if_pos (by rw [nl_len]; omega), rd_nl L i hlt, rd_nl L j (by omega), tmod_P, tmod_P, wrap64_in' _ (by omega) (by omega), show ((j : Int) + 1) = ((j + 1 : Nat) : Int) by omega]
        by_cases he : c (L[j]'(by omega)) = c L[i]
        · have h2 := c_iff.1 he
          rw [if_pos (by rw [h2]), if_neg]
          intro hnd
          exact ((nodup_next L i hlt).1 (nodup_upto L (i + 1) hnd)).2 j (by omega) he
        · have h2 : ¬ (L[j]'(by omega)) % PP = L[i] % PP := fun h => he (c_iff.2 h)
          rw [if_neg (by omega)]
          refine ihe k (j + 1) (by omega) (by omega) (fun q h1 h3 => ?_)
          by_cases hqj : q = j
          · subst hqj; exact he
          · exact hq q (by omega) (by omega)
    exact inner i k 0 (by omega) (by omega) (fun q hq => by omega)
theorem rapart_tells (k : Nat) (L : List Nat) (hk : 5000 < k) : caucusref03_Apart.f k (nl L) = some ((apC L).getD 0) := by
  unfold caucusref03_Apart.f apC
  rw [nl_len]
  by_cases h : 64 < L.length
  · rw [if_pos (by omega), if_pos h]; rfl
  · rw [if_neg (by omega), if_neg h]
    have h2 := rapart_loop L (by omega) L.length k 0 (by omega) (by omega) (by simp)
    have h3 : caucusref03_Apart.l0 k (nl L) 0 = some (if (L.map c).Nodup then 0 else 8) := h2
    rw [h3]
    split <;> rfl
theorem apC_pos {L : List Nat} {e : Int} (h : apC L = some e) : e = 1 ∨ e = 8 := by
  unfold apC at h
  split at h
  · injection h with h; exact Or.inl h.symm
  · split at h
    · cases h
    · injection h with h; exact Or.inr h.symm

/-! ### point by point a number more -/
theorem kX_apart {p : List (Nat × Nat)} (h : apC (pX p) = none) : p.length ≤ 64 ∧ (kX p).Nodup := by
  have := apC_none h
  rw [pX_len] at this
  exact this
theorem rthrough_loop (p : List (Nat × Nat)) (h : apC (pX p) = none) (t : Nat) (d : Nat) : ∀ (k : Nat) (N : List Nat), N.length + d = p.length → 70 * (d + 1) + 800 < k → Newt (N.map c) (kX p) (kY p) →
    caucusref03_Through.l0 k (p69 p) (t : Int) (nl N) (N.length : Int) = some (((thr (kX p) (kY p) (c t)).val : Int), 0) := by
  obtain ⟨hl, hn⟩ := kX_apart h
  -- the inner loop, whatever follows
  have inner : ∀ (N : List Nat) (x : Nat) (R : Option (Int × Int)) (K0 : Nat), N.length ≤ p.length → 750 ≤ K0 →
      (∀ (k v q : Nat), K0 < k → v < PP → c v = nv (N.map c) (kX p) (c x) N.length → c q = np (kX p) (c x) N.length → q < PP → caucusref03_Through.l1 k (p69 p) (t : Int) (nl N) (N.length : Int) (x : Int) (v : Int) (q : Int) (N.length : Int) = R) →
      ∀ (e k v q j : Nat), j + e = N.length → K0 + e < k → v < PP → q < PP → c v = nv (N.map c) (kX p) (c x) j → c q = np (kX p) (c x) j → caucusref03_Through.l1 k (p69 p) (t : Int) (nl N) (N.length : Int) (x : Int) (v : Int) (q : Int) (j : Int) = R := by
    intro N x R K0 hN hK0 fin e
    induction e with
    | zero =>
      intro k v q j hj hk hv hq h1 h2
      obtain rfl : j = N.length := by omega
      exact fin k v q (by omega) hv h1 h2 hq
    | succ e ihe =>
      intro k v q j hj hk hv hq h1 h2
      obtain ⟨k, rfl⟩ : ∃ m, k = m + 1 := ⟨k - 1, by omega⟩
      have hjN : j < N.length := by omega
      have hjp : j < p.length := by omega
      simp only [caucusref03_Through.l1]
      rw [if_pos (by omega), if_pos (by omega), if_pos (by rw [nl_len]; omega), rd_nl N j hjN, rmul_c k _ _ (by omega)]
      simp only [obind]
      rw [radd_c]
      simp only [obind]
      rw [if_pos (by rw [p69_len]; omega), rd_p69 p j hjp, rsub_c]
      simp only [obind]
      rw [rmul_c k _ _ (by omega)]
      simp only [obind]
      rw [wrap64_in' _ (by omega) (by omega), show ((j : Int) + 1) = ((j + 1 : Nat) : Int) by omega]
      refine ihe k _ _ (j + 1) (by omega) (by omega) (kval_lt _) (kval_lt _) ?_ ?_
      · rw [c_of_val, c_of_val, h1, h2, nv]
        have : (N.map c).getD j 0 = c N[j] := getD_c N j hjN
        rw [this]
      · rw [c_of_val, c_of_val, h2, np, kX_at p j hjp]
  induction d with
  | zero =>
    intro k N hd hk hN
    obtain ⟨k, rfl⟩ : ∃ m, k = m + 1 := ⟨k - 1, by omega⟩
    simp only [caucusref03_Through.l0]
    rw [if_pos (by rw [p69_len]; omega), if_neg (by rw [p69_len]; omega)]
    obtain ⟨k, rfl⟩ : ∃ m, k = m + 1 := ⟨k - 1, by omega⟩
    simp only [caucusref03_Through.j1]
    refine inner N t _ 750 (by omega) (by omega) ?_ N.length k 0 1 0 (by omega) (by omega) PP_pos (by decide) c_zero c_one
    intro k v q hk hv h1 h2 hq
    obtain ⟨k, rfl⟩ : ∃ m, k = m + 1 := ⟨k - 1, by omega⟩
    simp only [caucusref03_Through.l1]
    rw [if_neg (by omega), if_pos (by rw [p69_len]; omega)]
    have e := hN.done hn (by rw [List.length_map, kX_len]; omega) (c t)
    rw [kX_len, ← hd, Nat.add_zero] at e
    rw [e] at h1
    rw [val_eq hv h1]
  | succ d ih =>
    intro k N hd hk hN
    obtain ⟨k, rfl⟩ : ∃ m, k = m + 1 := ⟨k - 1, by omega⟩
    have hi : N.length < p.length := by omega
    simp only [caucusref03_Through.l0]
    rw [if_pos (by rw [p69_len]; omega), if_pos (by rw [p69_len]; omega), if_pos (by omega), rd_p69 p _ hi]
    obtain ⟨k, rfl⟩ : ∃ m, k = m + 1 := ⟨k - 1, by omega⟩
    simp only [caucusref03_Through.j1]
    refine inner N p[N.length].1 _ (70 * (d + 1) + 801) (by omega) (by omega) ?_ N.length k 0 1 0 (by omega) (by omega) PP_pos (by decide) c_zero c_one
    intro k v q hk hv h1 h2 hq
    obtain ⟨k, rfl⟩ : ∃ m, k = m + 1 := ⟨k - 1, by omega⟩
    simp only [caucusref03_Through.l1]
    rw [if_neg (by omega), if_neg (by rw [p69_len]; omega), if_pos (by omega), if_pos (by rw [p69_len]; omega), rd_p69 p _ hi, rsub_c]
    simp only [obind]
    rw [rinv_c k q (by omega)]
    simp only [obind]
    rw [rmul_c k _ _ (by omega)]
    simp only [obind]
    rw [if_pos (by rw [nl_len]; omega), wrap64_in' _ (by omega) (by omega)]
    have hs := hN.step hn (by rw [List.length_map, kX_len]; omega)
    rw [List.length_map, kY_at p _ hi, kX_at p _ hi, ← h1, ← h2] at hs
    have e1 : N.map c ++ [(c p[N.length].2 - c v) * kinv (c q)] = (N ++ [((c p[N.length].2 - c v) * kinv (c q)).val]).map c := by
      rw [List.map_append, List.map_cons, List.map_nil, c_of_val]
    rw [e1] at hs
    have h3 := ih k (N ++ [((c p[N.length].2 - c v) * kinv (c q)).val]) (by simp; omega) (by omega) hs
    rw [List.length_append, List.length_singleton] at h3
    have e2 : nl (N ++ [((c p[N.length].2 - c v) * kinv (c q)).val]) = nl N ++ [(((c p[N.length].2 - c v) * kinv (c q)).val : Int)] := by
      unfold nl
      rw [List.map_append]
      rfl
    rw [e2] at h3
    rw [c_of_val, c_of_val]
    exact h3
end Go.Proofs.YtbfgppecpkfcnaaDoor.PPoly
