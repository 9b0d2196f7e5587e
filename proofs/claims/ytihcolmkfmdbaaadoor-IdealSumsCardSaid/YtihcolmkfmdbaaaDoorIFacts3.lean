/-
  What the printed functions of ideal, of its reference, and of the laws answer: what is hidden, who came, copies, sums, comparers.
-/
import Derived.Test.YtihcolmkfmdbaaaDoorIFacts2
namespace Go.Proofs.YtihcolmkfmdbaaaDoor.PId
open Go.RowKit Go.Proofs.YtihcolmkfmdbaaaDoorW.PrintWords Go.Proofs.YtihcolmkfmdbaaaDoorW.PrintLast Go.Proofs.YtihcolmkfmdbaaaDoorW.PrintMore Go.Proofs.YtihcolmkfmdbaaaDoor.Ip
open Classical

/-! ### what is hidden -/
theorem wsub (x y : Nat) (h : y < x) (hx : x ≤ 1000) : wrap64 ((wrap64 ((x : Int) - (y : Int))) - 1) = ((x - y - 1 : Nat) : Int) := by
  rw [wrap64_in' ((x : Int) - (y : Int)) (by omega) (by omega), wrap64_in' _ (by omega) (by omega)]
  omega
theorem vadd_is {a b : List Int} {d : Nat} (ha : a.length = d) (hb : b.length = d) (hd : d ≤ 32) : vec_Add.f a b = some (va a b, none) := by
  unfold vec_Add.f
  rw [if_pos (by omega)]
  rfl
theorem vsub_is {a b : List Int} {d : Nat} (ha : a.length = d) (hb : b.length = d) (hd : d ≤ 32) : vec_Sub.f a b = some (vs a b, none) := by
  unfold vec_Sub.f
  rw [if_pos (by omega)]
  rfl
theorem radd_va {a b : List Int} {d : Nat} (ha : a.length = d) (hb : b.length = d) (hd : d ≤ 32) (k : Nat) (hk : 40 < k) : caucusref02_Add.f k a b 1 = some (va a b, true) := by
  rw [radd_ok k a b 1 (by omega) hk, rop_add']
  rfl
section
variable {O : List (List Int)} {P : List (List (List Int))} {n d : Nat}
theorem hidden_loop (F : Fit O P n d) (hn : n ≤ 64) (hd : d ≤ 32) {i : Nat} (hi : i < n) {x : List Int} (hx : x.length = d) (m : Nat) : ∀ (k j : Nat), n ≤ j + m → j ≤ n → m < k →
    ideal_Table_hidden.l0 k (i : Int) (hpart O P i x j) none (n : Int) (j : Int) O P = some (hpart O P i x n, none) := by
  induction m with
  | zero =>
    intro k j h1 h2 hk
    obtain ⟨k, rfl⟩ : ∃ m, k = m + 1 := ⟨k - 1, by omega⟩
    obtain rfl : j = n := by omega
    simp only [ideal_Table_hidden.l0]
    rw [if_neg (by omega)]
  | succ m ih =>
    intro k j h1 h2 hk
    obtain ⟨k, rfl⟩ : ∃ m, k = m + 1 := ⟨k - 1, by omega⟩
    simp only [ideal_Table_hidden.l0]
    have hp := F.prs
    by_cases hlt : j < n
    · have hl := (hpart_is F hi hx j (by omega)).1
      have hs := hpart_succ O P i x j
      have ht := ih k (j + 1) (by omega) (by omega) (by omega)
      rw [if_pos (by omega)]
      by_cases hij : i < j
      · have hr := F.rl i hi (j - i - 1) (by omega)
        have hpl := F.pl i hi
        rw [if_pos (by omega), if_pos (by omega), if_pos (by omega), wsub j i hij (by omega), L2_at, if_pos (by omega), if_pos (by omega), L1_at, vadd_is hl hr hd]
        simp only [obind]
        rw [if_pos (show (none : Option Int).isNone = true from rfl), wrap64_in' _ (by omega) (by omega), suc]
        unfold hstep at hs
        rw [if_pos hij] at hs
        rw [← hs]
        exact ht
      · rw [if_neg (by omega)]
        by_cases hji : j < i
        · have hr := F.rl j hlt (i - j - 1) (by omega)
          have hpl := F.pl j hlt
          rw [if_pos (by omega), if_pos (by omega), if_pos (by omega), wsub i j hji (by omega), L2_at, if_pos (by omega), if_pos (by omega), L1_at, vsub_is hl hr hd]
          simp only [obind]
          rw [if_pos (show (none : Option Int).isNone = true from rfl), wrap64_in' _ (by omega) (by omega), suc]
          unfold hstep at hs
          rw [if_neg hij, if_pos hji] at hs
          rw [← hs]
          exact ht
        · rw [if_neg (by omega), if_pos (show (none : Option Int).isNone = true from rfl), wrap64_in' _ (by omega) (by omega), suc]
          unfold hstep at hs
          rw [if_neg hij, if_neg hji] at hs
          rw [← hs]
          exact ht
    · obtain rfl : j = n := by omega
      rw [if_neg (by omega)]
theorem hidden_is (F : Fit O P n d) (hn : n ≤ 64) (hd : d ≤ 32) {i : Nat} (hi : i < n) {x : List Int} (hx : x.length = d) (k : Nat) (hk : 70 < k) :
    ideal_Table_hidden.f k O P (i : Int) x = some (hpart O P i x n, none) := by
  unfold ideal_Table_hidden.f
  have ho := F.own
  rw [if_pos (by omega), if_pos (by omega), L1_at, vadd_is hx (F.ol i hi) hd]
  simp only [obind]
  rw [if_pos (show (none : Option Int).isNone = true from rfl), ho]
  exact hidden_loop F hn hd hi hx n k 0 (by omega) (by omega) (by omega)
theorem hid_take (L : List (List Int)) (j : Nat) (hj : j < L.length) : (hid O P L).take (j + 1) = (hid O P L).take j ++ [hpart O P j (gr L j) L.length] := by
  have h : j < (hid O P L).length := by rw [hid_len]; exact hj
  rw [List.take_succ_eq_append_getElem h]
  congr 2
  have := hid_at O P L hj
  simpa [gr, List.getD, h] using this
theorem Hidden_loop (F : Fit O P n d) (hn : n ≤ 64) (hd : d ≤ 32) {L : List (List Int)} (hL : Ip.Rows L n d) (m : Nat) : ∀ (k j : Nat), n ≤ j + m → j ≤ n → m + 75 < k →
    ideal_Hidden.l0 k ((hid O P L).take j) L (L.length : Int) (j : Int) O P = some (hid O P L, none) := by
  have hl := hL.1
  have hlen := hid_len O P L
  induction m with
  | zero =>
    intro k j h1 h2 hk
    obtain ⟨k, rfl⟩ : ∃ m, k = m + 1 := ⟨k - 1, by omega⟩
    obtain rfl : j = n := by omega
    simp only [ideal_Hidden.l0]
    rw [if_neg (by omega), List.take_of_length_le (by omega)]
  | succ m ih =>
    intro k j h1 h2 hk
    obtain ⟨k, rfl⟩ : ∃ m, k = m + 1 := ⟨k - 1, by omega⟩
    simp only [ideal_Hidden.l0]
    by_cases hlt : j < n
    · rw [if_pos (by omega), if_pos (by omega), if_pos (by omega), L1_at, hidden_is F hn hd hlt (hL.2 j hlt) k (by omega)]
      simp only [obind]
      have hs := hid_take (O := O) (P := P) L j (by omega)
      rw [hl] at hs
      rw [if_pos (show (none : Option Int).isNone = true from rfl), if_pos (by rw [List.length_take]; omega), ← hs, wrap64_in' _ (by omega) (by omega), suc]
      exact ih k (j + 1) (by omega) (by omega) (by omega)
    · obtain rfl : j = n := by omega
      rw [if_neg (by omega), List.take_of_length_le (by omega)]
end
theorem Hidden_is (k : Nat) (hk : 200 < k) (O : List (List Int)) (P : List (List (List Int))) (L : List (List Int)) : ideal_Hidden.f k O P L = some (if FitsP O P L then (hid O P L, none) else ([], some 1)) := by
  unfold ideal_Hidden.f
  rw [fits_is k (by omega)]
  simp only [obind]
  by_cases h : FitsP O P L
  · obtain ⟨h1, h2, h3, h4⟩ := h.plain
    rw [if_pos h, if_pos h, if_pos (show (none : Option Int).isNone = true from rfl)]
    exact Hidden_loop h1 h3 h4 h2 L.length k 0 (by omega) (by omega) (by omega)
  · rw [if_neg h, if_neg h, if_neg (by simp)]
    rfl
section
variable {O : List (List Int)} {P : List (List (List Int))} {n d : Nat}
end
/-! ### are they places? -/
structure PlacesP (came : List Int) (n : Int) : Prop where
  inc : inc (-1) came = true
  all : ∀ x ∈ came, x < n
theorem inc_pw (l : List Int) : ∀ last, inc last l = true → l.Pairwise (· < ·) := by
  induction l with
  | nil => intro _ _; exact List.Pairwise.nil
  | cons a l ih =>
    intro last h
    simp only [inc, Bool.and_eq_true, decide_eq_true_eq] at h
    exact List.pairwise_cons.2 ⟨fun x hx => (inc_ge l a x h.2 hx).1, ih a h.2⟩
theorem PlacesP.places {came : List Int} {n : Nat} (h : PlacesP came (n : Int)) : Places came n ∧ came.length ≤ 64 :=
  ⟨⟨fun x hx => ⟨by have := inc_ge came (-1) x h.inc hx; omega, h.all x hx⟩, inc_pw came (-1) h.inc⟩, by have := inc_len came (-1) (by omega) (by omega) h.inc; omega⟩
theorem placed_is (k : Nat) (hk : 1000 < k) (came : List Int) (n : Int) (hl : came.length ≤ 1000) : ideal_placed.f k came n = some (if PlacesP came n then none else some 1) := by
  unfold ideal_placed.f
  rw [check_tells k came hl hk]
  simp only [obind]
  by_cases h : inc (-1) came = true
  · rw [if_pos h, if_pos (show (none : Option Int).isNone = true from rfl)]
    by_cases h0 : (came.length : Int) > 0
    · have hlast : ((came.length : Int) - 1) = ((came.length - 1 : Nat) : Int) := by omega
      rw [if_pos h0, wrap64_in' _ (by omega) (by omega), if_pos (by omega), if_pos (by omega), hlast, rd_at came (came.length - 1) (by omega)]
      by_cases h1 : came[came.length - 1]'(by omega) ≥ n
      · rw [if_pos h1, if_neg]
        intro q
        have := q.all _ (List.getElem_mem (by omega : came.length - 1 < came.length))
        omega
      · rw [if_neg h1, if_pos]
        refine ⟨h, fun x hx => ?_⟩
        obtain ⟨i, hi, rfl⟩ := List.mem_iff_getElem.1 hx
        by_cases e : i = came.length - 1
        · subst e; omega
        · have := List.pairwise_iff_getElem.1 (inc_pw came (-1) h) i (came.length - 1) hi (by omega) (by omega)
          omega
    · have h2 : came = [] := List.eq_nil_of_length_eq_zero (by omega)
      rw [if_neg h0, if_pos ⟨h, by rw [h2]; simp⟩]
  · rw [if_neg h, if_neg (by simp), if_neg (fun q => h q.inc)]
theorem has_is' (k : Nat) (hk : 1000 < k) (came : List Int) (hl : came.length ≤ 1000) (i : Nat) (hi : i < 64) : set_Has.f k came (i : Int) = some (hs came i) := by
  rw [has_tells k came i hl hk]
  congr 1
  unfold hs
  by_cases h : (i : Int) ∈ came
  · simp [h]; omega
  · simp [h]
/-! ### copies -/
theorem copied_loop (L : List (List Int)) (hL : L.length ≤ 1000) (hr : ∀ i, i < L.length → (gr L i).length ≤ 1000) (d : Nat) : ∀ (k j : Nat), L.length ≤ j + d → j ≤ L.length → d < k →
    ideal_copied.l0 k (L.take j) L (L.length : Int) (j : Int) = some L := by
  induction d with
  | zero =>
    intro k j h1 h2 hk
    obtain ⟨k, rfl⟩ : ∃ m, k = m + 1 := ⟨k - 1, by omega⟩
    simp only [ideal_copied.l0]
    rw [if_neg (by omega), List.take_of_length_le (by omega)]
  | succ d ih =>
    intro k j h1 h2 hk
    obtain ⟨k, rfl⟩ : ∃ m, k = m + 1 := ⟨k - 1, by omega⟩
    simp only [ideal_copied.l0]
    by_cases hlt : j < L.length
    · rw [if_pos (by omega), if_pos (by omega), if_pos (by omega), L1_at]
      unfold slices_Clone_uint32_uint32.f
      rw [if_pos (hr j hlt)]
      simp only [obind]
      rw [if_pos (by rw [List.length_take]; omega), ← take_snoc hlt, wrap64_in' _ (by omega) (by omega), suc]
      exact ih k (j + 1) (by omega) (by omega) (by omega)
    · rw [if_neg (by omega), List.take_of_length_le (by omega)]
theorem copied_is (k : Nat) (hk : 1000 < k) (L : List (List Int)) (hL : L.length ≤ 1000) (hr : ∀ i, i < L.length → (gr L i).length ≤ 1000) : ideal_copied.f k L = some L :=
  copied_loop L hL hr L.length k 0 (by omega) (by omega) (by omega)
theorem take_snocP {P : List (List (List Int))} {k : Nat} (hk : k < P.length) : P.take (k + 1) = P.take k ++ [gp P k] := by
  rw [List.take_succ_eq_append_getElem hk]
  simp [gp, List.getD, hk]
theorem clone_loop (O : List (List Int)) (P : List (List (List Int))) (hP : P.length ≤ 1000) (hr : ∀ i, i < P.length → (gp P i).length ≤ 1000 ∧ ∀ j, j < (gp P i).length → (gr (gp P i) j).length ≤ 1000) (d : Nat) : ∀ (k j : Nat), P.length ≤ j + d → j ≤ P.length → d + 1001 < k →
    ideal_Table_clone.l0 k P (P.length : Int) (j : Int) O (P.take j) = some (O, P) := by
  induction d with
  | zero =>
    intro k j h1 h2 hk
    obtain ⟨k, rfl⟩ : ∃ m, k = m + 1 := ⟨k - 1, by omega⟩
    simp only [ideal_Table_clone.l0]
    rw [if_neg (by omega), List.take_of_length_le (by omega)]
  | succ d ih =>
    intro k j h1 h2 hk
    obtain ⟨k, rfl⟩ : ∃ m, k = m + 1 := ⟨k - 1, by omega⟩
    simp only [ideal_Table_clone.l0]
    by_cases hlt : j < P.length
    · rw [if_pos (by omega), if_pos (by omega), if_pos (by omega), L2_at, copied_is k (by omega) _ (hr j hlt).1 (hr j hlt).2]
      simp only [obind]
      rw [if_pos (by rw [List.length_take]; omega), ← take_snocP hlt, wrap64_in' _ (by omega) (by omega), suc]
      exact ih k (j + 1) (by omega) (by omega) (by omega)
    · rw [if_neg (by omega), List.take_of_length_le (by omega)]
theorem clone_is' (k : Nat) (hk : 2100 < k) {O : List (List Int)} {P : List (List (List Int))} {n d : Nat} (F : Fit O P n d) (hn : n ≤ 64) (hd : d ≤ 32) : ideal_Table_clone.f k O P = some (O, P) := by
  have ho := F.own
  have hp := F.prs
  unfold ideal_Table_clone.f
  rw [copied_is k (by omega) O (by omega) (fun i hi => by have := F.ol i (by omega); omega)]
  simp only [obind]
  exact clone_loop O P (by omega) (fun i hi => ⟨by have := F.pl i (by omega); omega, fun j hj => by have := F.rl i (by omega) j (by have := F.pl i (by omega); omega); omega⟩) P.length k 0 (by omega) (by omega) (by omega)
end Go.Proofs.YtihcolmkfmdbaaaDoor.PId
