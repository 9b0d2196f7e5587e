/-
  What the printed functions of ideal, of its reference, and of the laws answer: sums, who is alike, comparers, what is too much.
-/
import Derived.Test.YtihcolmkfmdbaaaDoorIFacts3
namespace Go.Proofs.YtihcolmkfmdbaaaDoor.PId
open Go.RowKit Go.Proofs.YtihcolmkfmdbaaaDoorW.PrintWords Go.Proofs.YtihcolmkfmdbaaaDoorW.PrintLast Go.Proofs.YtihcolmkfmdbaaaDoorW.PrintMore Go.Proofs.YtihcolmkfmdbaaaDoor.Ip
open Classical

/-! ### sums -/
theorem sumL_is (d : Nat) (hd : d ≤ 32) (l : List (List Int)) : ∀ o : List Int, o.length = d → (∀ x ∈ l, x.length = d) → sumL o l = some (l.foldl va o) := by
  induction l with
  | nil => intro o _ _; rfl
  | cons a l ih =>
    intro o ho hl
    have ha := hl a (by simp)
    simp only [sumL]
    rw [if_pos (by omega)]
    have e : List.zipWith Bo.op_add o a = va o a := rfl
    rw [e, ih (va o a) (va_len ho ha) (fun x hx => hl x (by simp [hx]))]
    rfl
theorem sumN_is {d : Nat} (hd : d ≤ 32) (l : List (List Int)) (hl : ∀ x ∈ l, x.length = d) : sumN l (d : Int) = some (sumr l d) := by
  unfold sumN
  rw [if_pos (by omega), Int.toNat_natCast]
  exact sumL_is d hd l (zr d) (zr_len d) hl
theorem rows_all {L : List (List Int)} {n d : Nat} (h : Ip.Rows L n d) : ∀ x ∈ L, x.length = d := by
  intro x hx
  obtain ⟨i, hi, rfl⟩ := List.mem_iff_getElem.1 hx
  have := h.2 i (by rw [← h.1]; exact hi)
  simpa [gr, List.getD, hi] using this
theorem rsum_is (k : Nat) (hk : 1100 < k) {L : List (List Int)} {n d : Nat} (h : Ip.Rows L n d) (hn : n ≤ 1000) (hd : d ≤ 32) : caucusref02_Sum.f k L (d : Int) = some (sumr L d, true) := by
  rw [rsum_tells k L d (by have := h.1; omega) hk, sumN_is hd L (rows_all h)]
  rfl
/-- the rows of those who came -/
def ofCame (came : List Int) (L : List (List Int)) : List (List Int) := came.map fun x => gr L x.toNat
theorem ofCame_len {came : List Int} {L : List (List Int)} {n d : Nat} (hp : Places came n) (h : Ip.Rows L n d) : ∀ x ∈ ofCame came L, x.length = d := by
  intro x hx
  obtain ⟨y, hy, rfl⟩ := List.mem_map.1 hx
  have := hp.lo y hy
  exact h.2 _ (by omega)
theorem sum_loop {came : List Int} {L : List (List Int)} {n d : Nat} (hp : Places came n) (h : Ip.Rows L n d) (hc : came.length ≤ 1000) (hd : d ≤ 32) (m : Nat) : ∀ (k j : Nat), came.length ≤ j + m → j ≤ came.length → m + 1001 < k →
    ideal_sum.l0 k L (d : Int) ((ofCame came L).take j) came (came.length : Int) (j : Int) = some (sumr (ofCame came L) d, none) := by
  have hl := h.1
  have hlen : (ofCame came L).length = came.length := by simp [ofCame]
  have hend : ∀ k, 1000 < k → ((vec_Sum.f k (ofCame came L) (d : Int)).bind fun bt227 => some (bt227.1, bt227.2)) = some (sumr (ofCame came L) d, none) := by
    intro k hk
    rw [vsum_tells k _ _ (by omega) hk, sumN_is hd _ (ofCame_len hp h)]
    rfl
  induction m with
  | zero =>
    intro k j h1 h2 hk
    obtain ⟨k, rfl⟩ : ∃ m, k = m + 1 := ⟨k - 1, by omega⟩
    simp only [ideal_sum.l0]
    rw [if_neg (by omega), List.take_of_length_le (by omega)]
    exact hend k (by omega)
  | succ m ih =>
    intro k j h1 h2 hk
    obtain ⟨k, rfl⟩ : ∃ m, k = m + 1 := ⟨k - 1, by omega⟩
    simp only [ideal_sum.l0]
    by_cases hlt : j < came.length
    · have hx := hp.lo came[j] (List.getElem_mem hlt)
      rw [if_pos (by omega), if_pos (by omega), if_pos (by omega), rd_at came j hlt, if_pos hx.1, if_pos (by omega), if_pos (by rw [List.length_take]; omega), wrap64_in' _ (by omega) (by omega), suc]
      have e : (ofCame came L).take j ++ [rd_L1 L came[j]] = (ofCame came L).take (j + 1) := by
        rw [List.take_succ_eq_append_getElem (by omega)]
        congr 2
        simp [ofCame, rd_L1, gr]
      rw [e]
      exact ih k (j + 1) (by omega) (by omega) (by omega)
    · rw [if_neg (by omega), List.take_of_length_le (by omega)]
      exact hend k (by omega)
theorem sum_is {came : List Int} {L : List (List Int)} {n d : Nat} (hp : Places came n) (h : Ip.Rows L n d) (hc : came.length ≤ 1000) (hd : d ≤ 32) (k : Nat) (hk : 2100 < k) : ideal_sum.f k L came (d : Int) = some (sumr (ofCame came L) d, none) :=
  sum_loop hp h hc hd came.length k 0 (by omega) (by omega) (by omega)

/-! ### can rows be moved to others? -/
structure AlikeP (O : List (List Int)) (P : List (List (List Int))) (came : List Int) (L K : List (List Int)) : Prop where
  fits : FitsP O P L
  len : K.length = L.length
  rows : ∀ i, i < K.length → ((gr K i).length : Int) = (dimOf L : Int)
  places : PlacesP came (L.length : Int)
  out : ∀ i, 0 ≤ i → i < L.length → hs came i = true ∨ gr L i = gr K i
theorem AlikeP.krows {O : List (List Int)} {P : List (List (List Int))} {came : List Int} {L K : List (List Int)} (h : AlikeP O P came L K) : Ip.Rows K L.length (dimOf L) :=
  ⟨h.len, fun i hi => by have := h.rows i (by have := h.len; omega); omega⟩
noncomputable def alikeOut (O : List (List Int)) (P : List (List (List Int))) (came : List Int) (L K : List (List Int)) : Option Int :=
  if AlikeP O P came L K then (if sumr (ofCame came L) (dimOf L) = sumr (ofCame came K) (dimOf L) then none else some 4) else some 1
theorem alike_loop {O : List (List Int)} {P : List (List (List Int))} {came : List Int} {L K : List (List Int)} (hf : FitsP O P L) (hlen : K.length = L.length) (hr : ∀ i, i < K.length → ((gr K i).length : Int) = (dimOf L : Int)) (hp : PlacesP came (L.length : Int)) (m : Nat) : ∀ (k j : Nat), L.length ≤ j + m → j ≤ L.length → m + 2200 < k →
    ideal_alike.l0 k came L K (dimOf L : Int) L (L.length : Int) (j : Int) = some (if ∀ i, j ≤ i → i < L.length → hs came i = true ∨ gr L i = gr K i then (if sumr (ofCame came L) (dimOf L) = sumr (ofCame came K) (dimOf L) then none else some 4) else some 1) := by
  obtain ⟨h1, h2, h3, h4⟩ := hf.plain
  have hK : Ip.Rows K L.length (dimOf L) := ⟨hlen, fun i hi => by have := hr i (by omega); omega⟩
  obtain ⟨hpl, hc⟩ := hp.places
  have hend : ∀ k j, L.length ≤ j → 2150 < k → ideal_alike.l0 (k + 1) came L K (dimOf L : Int) L (L.length : Int) (j : Int) = some (if ∀ i, j ≤ i → i < L.length → hs came i = true ∨ gr L i = gr K i then (if sumr (ofCame came L) (dimOf L) = sumr (ofCame came K) (dimOf L) then none else some 4) else some 1) := by
    intro k j hj hk
    simp only [ideal_alike.l0]
    have hs1 : (sumr (ofCame came L) (dimOf L)).length = dimOf L := by
      have := sumr_all (L := ofCame came L) (n := (ofCame came L).length) (d := dimOf L) ⟨rfl, fun i hi => ofCame_len hpl h2 _ (by rw [show gr (ofCame came L) i = (ofCame came L)[i] by simp [gr, List.getD, hi]]; exact List.getElem_mem hi)⟩
      exact this.1
    rw [if_neg (by omega), sum_is hpl h2 (by omega) h4 k (by omega)]
    simp only [obind]
    rw [if_pos (show (none : Option Int).isNone = true from rfl), sum_is hpl hK (by omega) h4 k (by omega)]
    simp only [obind]
    rw [if_pos (show (none : Option Int).isNone = true from rfl), vsame_tells k _ _ (by omega) (by omega)]
    simp only [obind]
    rw [if_pos (show ∀ i, j ≤ i → i < L.length → hs came i = true ∨ gr L i = gr K i from rest_end hj)]
    by_cases e : sumr (ofCame came L) (dimOf L) = sumr (ofCame came K) (dimOf L)
    · rw [if_pos (decide_eq_true e), if_pos e]
    · rw [if_neg (by rw [decide_eq_false e]; decide), if_neg e]
  induction m with
  | zero =>
    intro k j g1 g2 hk
    obtain ⟨k, rfl⟩ : ∃ m, k = m + 1 := ⟨k - 1, by omega⟩
    exact hend k j (by omega) (by omega)
  | succ m ih =>
    intro k j g1 g2 hk
    obtain ⟨k, rfl⟩ : ∃ m, k = m + 1 := ⟨k - 1, by omega⟩
    by_cases hlt : j < L.length
    · have hA := fun q => rest_step (n := L.length) (j := j) (A := fun i => hs came i = true ∨ gr L i = gr K i) q
      have ht := ih k (j + 1) (by omega) (by omega) (by omega)
      simp only [ideal_alike.l0]
      rw [if_pos (by omega), if_pos (by omega), if_pos (by omega), has_is' k (by omega) came (by omega) j (by omega)]
      simp only [obind]
      by_cases hh : hs came j = true
      · rw [if_pos hh, wrap64_in' _ (by omega) (by omega), suc, hA (Or.inl hh)]
        exact ht
      · rw [if_neg hh, if_pos (by omega), L1_at, L1_at]
        have he : slices_Equal_uint32_uint32.f k (gr L j) (gr K j) = some (decide (gr L j = gr K j)) := by
          have := vsame_tells k (gr L j) (gr K j) (by have := h2.2 j hlt; omega) (by omega)
          unfold vec_Same.f at this
          cases hq : slices_Equal_uint32_uint32.f k (gr L j) (gr K j) with
          | none => rw [hq] at this; cases this
          | some b => rw [hq] at this; exact this
        rw [he]
        simp only [obind]
        by_cases e : gr L j = gr K j
        · rw [if_pos (decide_eq_true e), wrap64_in' _ (by omega) (by omega), suc, hA (Or.inr e)]
          exact ht
        · rw [if_neg (by rw [decide_eq_false e]; decide), if_neg (rest_no (A := fun i => hs came i = true ∨ gr L i = gr K i) hlt (fun q => q.elim hh e))]
    · exact hend k j (by omega) (by omega)
theorem alike_j0 (k : Nat) (hk : 0 < k) (came : List Int) (L K : List (List Int)) (d : Int) : ideal_alike.j0 k came L K d true = some (some 1) := by
  obtain ⟨k, rfl⟩ : ∃ m, k = m + 1 := ⟨k - 1, by omega⟩
  simp only [ideal_alike.j0]
  rw [if_pos trivial]
theorem alike_is (k : Nat) (hk : 3300 < k) (O : List (List Int)) (P : List (List (List Int))) (came : List Int) (L K : List (List Int)) (hc : came.length ≤ 1000) : ideal_alike.f k O P came L K = some (alikeOut O P came L K) := by
  unfold ideal_alike.f alikeOut
  rw [fits_is k (by omega)]
  simp only [obind]
  by_cases h1 : FitsP O P L
  · rw [if_pos h1, if_pos (show (none : Option Int).isNone = true from rfl)]
    by_cases h2 : (K.length : Int) = (L.length : Int)
    · rw [if_pos h2]
      simp only [ideal_rowed.f, obind]
      by_cases h3 : Ih.okRows (dimOf L : Int) K = true
      · have h3' := (okRows_is _ _).1 h3
        rw [if_pos h3, placed_is k (by omega) came _ hc]
        simp only [obind]
        by_cases h4 : PlacesP came (L.length : Int)
        · rw [if_pos h4, if_pos (show (none : Option Int).isNone = true from rfl)]
          obtain ⟨k, rfl⟩ : ∃ m, k = m + 1 := ⟨k - 1, by omega⟩
          simp only [ideal_alike.j0]
          rw [if_neg (by decide)]
          obtain ⟨_, _, h64, _⟩ := h1.plain
          have h := alike_loop h1 (by omega) h3' h4 L.length k 0 (by omega) (by omega) (by omega)
          refine h.trans ?_
          congr 1
          by_cases h5 : ∀ i, 0 ≤ i → i < L.length → hs came i = true ∨ gr L i = gr K i
          · rw [if_pos h5, if_pos (show AlikeP O P came L K from ⟨h1, by omega, h3', h4, h5⟩)]
          · rw [if_neg h5, if_neg (fun q => h5 q.out)]
        · rw [if_neg h4, if_neg (by simp), alike_j0 k (by omega), if_neg (fun q => h4 q.places)]
      · rw [if_neg h3, alike_j0 k (by omega), if_neg (fun q => h3 ((okRows_is _ _).2 q.rows))]
    · rw [if_neg h2, alike_j0 k (by omega), if_neg (fun q => h2 (by have := q.len; omega))]
  · rw [if_neg h1, if_neg (by simp), if_neg (fun q => h1 q.fits)]
    rfl

/-! ### the laws' comparers -/
theorem dcons {α : Type} {x y : α} {l m : List α} [Decidable (x :: l = y :: m)] [Decidable (l = m)] (h : x = y) : decide (x :: l = y :: m) = decide (l = m) := by
  subst h
  exact decide_eq_decide.2 ⟨fun h => (List.cons.inj h).2, fun h => by rw [h]⟩
theorem dcons_no {α : Type} {x y : α} {l m : List α} [Decidable (x :: l = y :: m)] (h : x ≠ y) : decide (x :: l = y :: m) = false := decide_eq_false (fun q => h (List.cons.inj q).1)
theorem rows_loop (A B : List (List Int)) (hl : A.length = B.length) (hA : A.length ≤ 1000) (hr : ∀ i, i < A.length → (gr A i).length ≤ 1000) (d : Nat) : ∀ (k j : Nat), A.length ≤ j + d → j ≤ A.length → d + 1001 < k →
    caucuslaw37_rows.l0 k A B (j : Int) = some (decide (A.drop j = B.drop j)) := by
  induction d with
  | zero =>
    intro k j h1 h2 hk
    obtain ⟨k, rfl⟩ : ∃ m, k = m + 1 := ⟨k - 1, by omega⟩
    simp only [caucuslaw37_rows.l0]
    rw [if_neg (by omega), List.drop_of_length_le (by omega), List.drop_of_length_le (by omega)]
    simp
  | succ d ih =>
    intro k j h1 h2 hk
    obtain ⟨k, rfl⟩ : ∃ m, k = m + 1 := ⟨k - 1, by omega⟩
    simp only [caucuslaw37_rows.l0]
    by_cases hlt : j < A.length
    · have e1 : gr A j = A[j] := by simp [gr, List.getD, hlt]
      have e2 : gr B j = B[j]'(by omega) := by simp [gr, List.getD, show j < B.length by omega]
      rw [if_pos (by omega), if_pos (by omega), if_pos (by omega), L1_at, L1_at, same_tells k _ _ (hr j hlt) (by omega), drop_at A j hlt, drop_at B j (by omega), e1, e2]
      simp only [obind]
      by_cases e : A[j] = B[j]'(by omega)
      · rw [if_pos (decide_eq_true e), wrap64_in' _ (by omega) (by omega), suc, ih k (j + 1) (by omega) (by omega) (by omega), dcons e]
      · rw [if_neg (by rw [decide_eq_false e]; decide), dcons_no e]
    · rw [if_neg (by omega), List.drop_of_length_le (by omega), List.drop_of_length_le (by omega)]
      simp
theorem rows_is (k : Nat) (hk : 2100 < k) (A B : List (List Int)) (hA : A.length ≤ 1000) (hr : ∀ i, i < A.length → (gr A i).length ≤ 1000) : caucuslaw37_rows.f k A B = some (decide (A = B)) := by
  unfold caucuslaw37_rows.f
  by_cases h : A.length = B.length
  · rw [if_pos (by omega)]
    exact rows_loop A B h hA hr A.length k 0 (by omega) (by omega) (by omega)
  · rw [if_neg (by omega), decide_eq_false (fun e => h (by rw [e]))]
theorem tables_loop (O Q : List (List Int)) (A B : List (List (List Int))) (hl : A.length = B.length) (hA : A.length ≤ 1000) (hr : ∀ i, i < A.length → (gp A i).length ≤ 1000 ∧ ∀ j, j < (gp A i).length → (gr (gp A i) j).length ≤ 1000) (d : Nat) : ∀ (k j : Nat), A.length ≤ j + d → j ≤ A.length → d + 2101 < k →
    caucuslaw37_tables.l0 k (j : Int) O A Q B = some (decide (A.drop j = B.drop j)) := by
  induction d with
  | zero =>
    intro k j h1 h2 hk
    obtain ⟨k, rfl⟩ : ∃ m, k = m + 1 := ⟨k - 1, by omega⟩
    simp only [caucuslaw37_tables.l0]
    rw [if_neg (by omega), List.drop_of_length_le (by omega), List.drop_of_length_le (by omega)]
    simp
  | succ d ih =>
    intro k j h1 h2 hk
    obtain ⟨k, rfl⟩ : ∃ m, k = m + 1 := ⟨k - 1, by omega⟩
    simp only [caucuslaw37_tables.l0]
    by_cases hlt : j < A.length
    · have e1 : gp A j = A[j] := by simp [gp, List.getD, hlt]
      have e2 : gp B j = B[j]'(by omega) := by simp [gp, List.getD, show j < B.length by omega]
      rw [if_pos (by omega), if_pos (by omega), if_pos (by omega), L2_at, L2_at, rows_is k (by omega) _ _ (hr j hlt).1 (hr j hlt).2, drop_at A j hlt, drop_at B j (by omega), e1, e2]
      simp only [obind]
      by_cases e : A[j] = B[j]'(by omega)
      · rw [if_pos (decide_eq_true e), wrap64_in' _ (by omega) (by omega), suc, ih k (j + 1) (by omega) (by omega) (by omega), dcons e]
      · rw [if_neg (by rw [decide_eq_false e]; decide), dcons_no e]
    · rw [if_neg (by omega), List.drop_of_length_le (by omega), List.drop_of_length_le (by omega)]
      simp
theorem tables_j0 (k : Nat) (hk : 0 < k) (O Q : List (List Int)) (A B : List (List (List Int))) : caucuslaw37_tables.j0 k true O A Q B = some false := by
  obtain ⟨k, rfl⟩ : ∃ m, k = m + 1 := ⟨k - 1, by omega⟩
  simp only [caucuslaw37_tables.j0]
  rw [if_pos trivial]
theorem tables_is (k : Nat) (hk : 4300 < k) (O Q : List (List Int)) (A B : List (List (List Int))) (hO : O.length ≤ 1000) (ho : ∀ i, i < O.length → (gr O i).length ≤ 1000) (hA : A.length ≤ 1000) (hr : ∀ i, i < A.length → (gp A i).length ≤ 1000 ∧ ∀ j, j < (gp A i).length → (gr (gp A i) j).length ≤ 1000) :
    caucuslaw37_tables.f k O A Q B = some (decide (O = Q ∧ A = B)) := by
  unfold caucuslaw37_tables.f
  rw [rows_is k (by omega) O Q hO ho]
  simp only [obind]
  by_cases h : O = Q
  · rw [if_pos (decide_eq_true h)]
    by_cases hl : A.length = B.length
    · have hb : ((A.length : Int) != (B.length : Int)) = false := by simp [hl]
      rw [hb]
      obtain ⟨k, rfl⟩ : ∃ m, k = m + 1 := ⟨k - 1, by omega⟩
      simp only [caucuslaw37_tables.j0]
      rw [if_neg (by decide)]
      have := tables_loop O Q A B hl hA hr A.length k 0 (by omega) (by omega) (by omega)
      refine this.trans ?_
      simp [h]
    · have hb : ((A.length : Int) != (B.length : Int)) = true := by simp; omega
      rw [hb, tables_j0 k (by omega), decide_eq_false (fun e => hl (by rw [e.2]))]
  · rw [if_neg (by rw [decide_eq_false h]; decide), tables_j0 k (by omega), decide_eq_false (fun e => h e.1)]

/-! ### is it too much? -/
structure Small (L : List (List Int)) : Prop where
  len : L.length ≤ 12
  row : ∀ i, i < L.length → (gr L i).length ≤ 40
structure SmallT (O : List (List Int)) (P : List (List (List Int))) (ls : List (List (List Int))) : Prop where
  own : Small O
  plen : P.length ≤ 12
  prs : ∀ i, i < P.length → Small (gp P i)
  more : ∀ i, i < ls.length → Small (gp ls i)
/-- it answers; if it is not too much, so is all it saw -/
def Says (r : Option Bool) (A : Prop) : Prop := r = some true ∨ (r = some false ∧ A)
theorem Says.mono {r : Option Bool} {A B : Prop} (h : Says r A) (f : A → B) : Says r B := h.elim Or.inl (fun q => Or.inr ⟨q.1, f q.2⟩)
theorem great_l4 (ls : List (List (List Int))) (i : Nat) (hi : i < ls.length) (h12 : (gp ls i).length ≤ 12) (hls : ls.length ≤ 100) (A : Prop) (Z : Nat) (hnext : ∀ k, Z < k → Says (caucuslaw37_great.l3 k ls ((i + 1 : Nat) : Int)) A) (m : Nat) : ∀ (k j : Nat), (gp ls i).length ≤ j + m → j ≤ (gp ls i).length → m + Z + 1 < k →
    Says (caucuslaw37_great.l4 k ls (i : Int) (j : Int)) (A ∧ ∀ q, j ≤ q → q < (gp ls i).length → (gr (gp ls i) q).length ≤ 40) := by
  have hend : ∀ k j, (gp ls i).length ≤ j → Z < k → Says (caucuslaw37_great.l4 (k + 1) ls (i : Int) (j : Int)) (A ∧ ∀ q, j ≤ q → q < (gp ls i).length → (gr (gp ls i) q).length ≤ 40) := by
    intro k j h1 hk
    simp only [caucuslaw37_great.l4]
    rw [if_pos (by omega), if_pos (by omega), L2_at, if_neg (by omega), wrap64_in' _ (by omega) (by omega), suc]
    exact (hnext k hk).mono fun a => ⟨a, rest_end h1⟩
  induction m with
  | zero =>
    intro k j h1 h2 hk
    obtain ⟨k, rfl⟩ : ∃ m, k = m + 1 := ⟨k - 1, by omega⟩
    exact hend k j (by omega) (by omega)
  | succ m ih =>
    intro k j h1 h2 hk
    obtain ⟨k, rfl⟩ : ∃ m, k = m + 1 := ⟨k - 1, by omega⟩
    by_cases hlt : j < (gp ls i).length
    · simp only [caucuslaw37_great.l4]
      rw [if_pos (by omega), if_pos (by omega), L2_at, if_pos (by omega), if_pos (by omega), L1_at]
      by_cases h : ((gr (gp ls i) j).length : Int) > 40
      · rw [if_pos h]; exact Or.inl rfl
      · rw [if_neg h, wrap64_in' _ (by omega) (by omega), suc]
        refine (ih k (j + 1) (by omega) (by omega) (by omega)).mono fun q => ⟨q.1, ?_⟩
        rw [rest_step (A := fun q => (gr (gp ls i) q).length ≤ 40) (by omega)]
        exact q.2
    · exact hend k j (by omega) (by omega)
theorem great_l3 (ls : List (List (List Int))) (hls : ls.length ≤ 100) (m : Nat) : ∀ (k j : Nat), ls.length ≤ j + m → j ≤ ls.length → m * 20 + 2 < k →
    Says (caucuslaw37_great.l3 k ls (j : Int)) (∀ i, j ≤ i → i < ls.length → Small (gp ls i)) := by
  have hend : ∀ k j, ls.length ≤ j → Says (caucuslaw37_great.l3 (k + 1) ls (j : Int)) (∀ i, j ≤ i → i < ls.length → Small (gp ls i)) := by
    intro k j h1
    simp only [caucuslaw37_great.l3]
    rw [if_neg (by omega)]
    exact Or.inr ⟨rfl, rest_end h1⟩
  induction m with
  | zero =>
    intro k j h1 h2 hk
    obtain ⟨k, rfl⟩ : ∃ m, k = m + 1 := ⟨k - 1, by omega⟩
    exact hend k j (by omega)
  | succ m ih =>
    intro k j h1 h2 hk
    obtain ⟨k, rfl⟩ : ∃ m, k = m + 1 := ⟨k - 1, by omega⟩
    by_cases hlt : j < ls.length
    · simp only [caucuslaw37_great.l3]
      rw [if_pos (by omega), if_pos (by omega), L2_at]
      by_cases h : ((gp ls j).length : Int) > 12
      · rw [if_pos h]; exact Or.inl rfl
      · rw [if_neg h]
        refine (great_l4 ls j hlt (by omega) hls _ (m * 20 + 2) (fun k' hk' => ih k' (j + 1) (by omega) (by omega) hk') (gp ls j).length k 0 (by omega) (by omega) (by omega)).mono fun q => ?_
        rw [rest_step (A := fun i => Small (gp ls i)) ⟨by omega, fun i hi => q.2 i (by omega) hi⟩]
        exact q.1
    · exact hend k j (by omega)
theorem great_l2 (ls : List (List (List Int))) (hls : ls.length ≤ 100) (O : List (List Int)) (P : List (List (List Int))) (hO : O.length ≤ 12) (m : Nat) : ∀ (k j : Nat), O.length ≤ j + m → j ≤ O.length → m + 2010 < k →
    Says (caucuslaw37_great.l2 k ls (j : Int) O P) ((∀ i, j ≤ i → i < O.length → (gr O i).length ≤ 40) ∧ ∀ i, i < ls.length → Small (gp ls i)) := by
  have hend : ∀ k j, O.length ≤ j → 2005 < k → Says (caucuslaw37_great.l2 (k + 1) ls (j : Int) O P) ((∀ i, j ≤ i → i < O.length → (gr O i).length ≤ 40) ∧ ∀ i, i < ls.length → Small (gp ls i)) := by
    intro k j h1 hk
    simp only [caucuslaw37_great.l2]
    rw [if_neg (by omega)]
    exact (great_l3 ls hls ls.length k 0 (by omega) (by omega) (by omega)).mono fun q => ⟨rest_end h1, fun i hi => q i (by omega) hi⟩
  induction m with
  | zero =>
    intro k j h1 h2 hk
    obtain ⟨k, rfl⟩ : ∃ m, k = m + 1 := ⟨k - 1, by omega⟩
    exact hend k j (by omega) (by omega)
  | succ m ih =>
    intro k j h1 h2 hk
    obtain ⟨k, rfl⟩ : ∃ m, k = m + 1 := ⟨k - 1, by omega⟩
    by_cases hlt : j < O.length
    · simp only [caucuslaw37_great.l2]
      rw [if_pos (by omega), if_pos (by omega), L1_at]
      by_cases h : ((gr O j).length : Int) > 40
      · rw [if_pos h]; exact Or.inl rfl
      · rw [if_neg h, wrap64_in' _ (by omega) (by omega), suc]
        refine (ih k (j + 1) (by omega) (by omega) (by omega)).mono fun q => ⟨?_, q.2⟩
        rw [rest_step (A := fun i => (gr O i).length ≤ 40) (by omega)]
        exact q.1
    · exact hend k j (by omega) (by omega)
theorem great_l1 (ls : List (List (List Int))) (O : List (List Int)) (P : List (List (List Int))) (hP : P.length ≤ 12) (i : Nat) (hi : i < P.length) (h12 : (gp P i).length ≤ 12) (A : Prop) (Z : Nat) (hnext : ∀ k, Z < k → Says (caucuslaw37_great.l0 k ls ((i + 1 : Nat) : Int) O P) A) (m : Nat) : ∀ (k j : Nat), (gp P i).length ≤ j + m → j ≤ (gp P i).length → m + Z + 1 < k →
    Says (caucuslaw37_great.l1 k ls (i : Int) (j : Int) O P) (A ∧ ∀ q, j ≤ q → q < (gp P i).length → (gr (gp P i) q).length ≤ 40) := by
  have hend : ∀ k j, (gp P i).length ≤ j → Z < k → Says (caucuslaw37_great.l1 (k + 1) ls (i : Int) (j : Int) O P) (A ∧ ∀ q, j ≤ q → q < (gp P i).length → (gr (gp P i) q).length ≤ 40) := by
    intro k j h1 hk
    simp only [caucuslaw37_great.l1]
    rw [if_pos (by omega), if_pos (by omega), L2_at, if_neg (by omega), wrap64_in' _ (by omega) (by omega), suc]
    exact (hnext k hk).mono fun a => ⟨a, rest_end h1⟩
  induction m with
  | zero =>
    intro k j h1 h2 hk
    obtain ⟨k, rfl⟩ : ∃ m, k = m + 1 := ⟨k - 1, by omega⟩
    exact hend k j (by omega) (by omega)
  | succ m ih =>
    intro k j h1 h2 hk
    obtain ⟨k, rfl⟩ : ∃ m, k = m + 1 := ⟨k - 1, by omega⟩
    by_cases hlt : j < (gp P i).length
    · simp only [caucuslaw37_great.l1]
      rw [if_pos (by omega), if_pos (by omega), L2_at, if_pos (by omega), if_pos (by omega), L1_at]
      by_cases h : ((gr (gp P i) j).length : Int) > 40
      · rw [if_pos h]; exact Or.inl rfl
      · rw [if_neg h, wrap64_in' _ (by omega) (by omega), suc]
        refine (ih k (j + 1) (by omega) (by omega) (by omega)).mono fun q => ⟨q.1, ?_⟩
        rw [rest_step (A := fun q => (gr (gp P i) q).length ≤ 40) (by omega)]
        exact q.2
    · exact hend k j (by omega) (by omega)
set_option maxRecDepth 10000 in
theorem great_l0 (ls : List (List (List Int))) (hls : ls.length ≤ 100) (O : List (List Int)) (P : List (List (List Int))) (hO : O.length ≤ 12) (hP : P.length ≤ 12) (m : Nat) : ∀ (k j : Nat), P.length ≤ j + m → j ≤ P.length → m * 20 + 2030 < k →
    Says (caucuslaw37_great.l0 k ls (j : Int) O P) ((∀ i, j ≤ i → i < P.length → Small (gp P i)) ∧ Small O ∧ ∀ i, i < ls.length → Small (gp ls i)) := by
  have hend : ∀ k j, P.length ≤ j → 2025 < k → Says (caucuslaw37_great.l0 (k + 1) ls (j : Int) O P) ((∀ i, j ≤ i → i < P.length → Small (gp P i)) ∧ Small O ∧ ∀ i, i < ls.length → Small (gp ls i)) := by
    intro k j h1 hk
    simp only [caucuslaw37_great.l0]
    rw [if_neg (by omega)]
    exact (great_l2 ls hls O P hO O.length k 0 (by omega) (by omega) (by omega)).mono fun q => ⟨rest_end h1, ⟨hO, fun i hi => q.1 i (by omega) hi⟩, q.2⟩
  induction m with
  | zero =>
    intro k j h1 h2 hk
    obtain ⟨k, rfl⟩ : ∃ m, k = m + 1 := ⟨k - 1, by omega⟩
    exact hend k j (by omega) (by omega)
  | succ m ih =>
    intro k j h1 h2 hk
    obtain ⟨k, rfl⟩ : ∃ m, k = m + 1 := ⟨k - 1, by omega⟩
    by_cases hlt : j < P.length
    · simp only [caucuslaw37_great.l0]
      rw [if_pos (by omega), if_pos (by omega), L2_at]
      by_cases h : ((gp P j).length : Int) > 12
      · rw [if_pos h]; exact Or.inl rfl
      · rw [if_neg h]
        refine (great_l1 ls O P hP j hlt (by omega) _ (m * 20 + 2030) (fun k' hk' => ih k' (j + 1) (by omega) (by omega) hk') (gp P j).length k 0 (by omega) (by omega) (by omega)).mono fun q => ⟨?_, q.1.2⟩
        rw [rest_step (A := fun i => Small (gp P i)) ⟨by omega, fun i hi => q.2 i (by omega) hi⟩]
        exact q.1.1
    · exact hend k j (by omega) (by omega)
theorem great_j0 (k : Nat) (hk : 0 < k) (ls : List (List (List Int))) (O : List (List Int)) (P : List (List (List Int))) : caucuslaw37_great.j0 k ls true O P = some true := by
  obtain ⟨k, rfl⟩ : ∃ m, k = m + 1 := ⟨k - 1, by omega⟩
  simp only [caucuslaw37_great.j0]
  rw [if_pos trivial]
theorem great_is (k : Nat) (hk : 2300 < k) (O : List (List Int)) (P : List (List (List Int))) (ls : List (List (List Int))) (hls : ls.length ≤ 100) : Says (caucuslaw37_great.f k O P ls) (SmallT O P ls) := by
  unfold caucuslaw37_great.f
  by_cases h : (O.length : Int) > 12
  · rw [if_pos h, great_j0 k (by omega)]; exact Or.inl rfl
  · rw [if_neg h]
    by_cases h2 : (P.length : Int) > 12
    · rw [decide_eq_true h2, great_j0 k (by omega)]; exact Or.inl rfl
    · rw [decide_eq_false h2]
      obtain ⟨k, rfl⟩ : ∃ m, k = m + 1 := ⟨k - 1, by omega⟩
      simp only [caucuslaw37_great.j0]
      rw [if_neg (by decide)]
      exact (great_l0 ls hls O P (by omega) (by omega) P.length k 0 (by omega) (by omega) (by omega)).mono fun q => ⟨q.2.1, by omega, fun i hi => q.1 i (by omega) hi, q.2.2⟩
end Go.Proofs.YtihcolmkfmdbaaaDoor.PId
