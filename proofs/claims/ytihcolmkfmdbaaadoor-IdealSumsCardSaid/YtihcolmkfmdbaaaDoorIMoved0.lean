/-
  Words for the walk of ideal.Moved: what has been moved up to a place.
-/
import Derived.Test.YtihcolmkfmdbaaaDoorIShown1
namespace Go.Proofs.YtihcolmkfmdbaaaDoor.It
open Go.RowKit Go.Proofs.YtihcolmkfmdbaaaDoorW.PrintWords Go.Proofs.YtihcolmkfmdbaaaDoorW.PrintLast Go.Proofs.YtihcolmkfmdbaaaDoorW.PrintMore Go.Proofs.YtihcolmkfmdbaaaDoor.Ip Go.Proofs.YtihcolmkfmdbaaaDoor.Ih Go.Proofs.YtihcolmkfmdbaaaDoor.PId
section
variable {came : List Int} {O : List (List Int)} {P : List (List (List Int))} {L K : List (List Int)} {n d : Nat}
theorem moved_len : (moved came P L K n).length = n := by simp [moved]
theorem moved_rowlen {i : Nat} (hi : i < n) : (gp (moved came P L K n) i).length = n - 1 - i := by rw [moved_at hi]; simp
/-- nobody is moved: it is as it was -/
theorem moved_none (F : Fit O P n d) (h : ∀ i j, i < n → j < n - 1 - i → ¬ (i = fst came n ∧ hs came (i + 1 + j) = true)) : moved came P L K n = P := by
  refine pairs_ext (n := n) moved_len F.prs fun i hi => ?_
  refine rows_ext (n := n - 1 - i) (moved_rowlen hi) (F.pl i hi) fun j hj => ?_
  rw [moved_row hi hj]
  unfold mrow
  rw [if_neg (h i j hi hj)]
theorem hs_take {q k : Nat} (hq : q < came.length) : hs (came.take (q + 1)) k = (hs (came.take q) k || decide (came[q] = (k : Int))) := by
  unfold hs
  rw [List.take_succ_eq_append_getElem hq]
  simp only [List.mem_append, List.mem_singleton, Bool.decide_or]
  congr 1
  exact decide_eq_decide.2 eq_comm
theorem fst_take {q : Nat} (hq : 0 < q) : fst (came.take q) n = fst came n := by
  obtain ⟨q, rfl⟩ : ∃ m, q = m + 1 := ⟨q - 1, by omega⟩
  cases came with
  | nil => rfl
  | cons x l => rfl
/-- ahead of all but the first one -/
theorem moved_first (F : Fit O P n d) (hp : Places came n) (h0 : 0 < came.length) : moved (came.take 1) P L K n = P := by
  refine moved_none F fun i j hi hj => ?_
  rintro ⟨h1, h2⟩
  rw [fst_take (by omega)] at h1
  rw [hs_take (q := 0) h0] at h2
  cases came with
  | nil => simp at h0
  | cons x l =>
    have hx := (hp.lo x (by simp)).1
    simp only [fst] at h1
    simp [hs] at h2
    omega
theorem fst_zero : ∀ {came : List Int} {n : Nat} (_ : Places came n) (h0 : 0 < came.length), came[0] = (fst came n : Int)
  | [], _, _, h0 => absurd h0 (by simp)
  | x :: l, n, hp, _ => by
    have hx := (hp.lo x (by simp)).1
    simp only [fst, List.getElem_cons_zero]
    omega
/-- one more is moved -/
theorem moved_step (hp : Places came n) {q : Nat} (hq0 : 0 < q) (hq : q < came.length) {i f : Nat} (hi : came[q] = (i : Int)) (hf : fst came n = f) :
    f < i ∧ i < n ∧ gr (gp (moved (came.take q) P L K n) f) (i - f - 1) = gr (gp P f) (i - f - 1) ∧
    (moved (came.take q) P L K n).set f ((gp (moved (came.take q) P L K n) f).set (i - f - 1) (va (gr (gp P f) (i - f - 1)) (vs (gr K i) (gr L i)))) = moved (came.take (q + 1)) P L K n := by
  have hin := hp.lo came[q] (List.getElem_mem hq)
  have h00 : 0 < came.length := by omega
  have hf0 : came[0] = (f : Int) := by rw [← hf]; exact fst_zero hp h00
  have hfi : f < i := by
    have := List.pairwise_iff_getElem.1 hp.asc 0 q h00 hq hq0
    omega
  have hin' : i < n := by omega
  have hnot : hs (came.take q) i = false := by
    unfold hs
    rw [decide_eq_false_iff_not]
    intro hm
    obtain ⟨k, hk, e⟩ := List.mem_iff_getElem.1 hm
    have hk' : k < q := by rw [List.length_take] at hk; omega
    rw [List.getElem_take] at e
    have := List.pairwise_iff_getElem.1 hp.asc k q (by omega) hq hk'
    omega
  have e1 : f + 1 + (i - f - 1) = i := by omega
  have hrow : gr (gp (moved (came.take q) P L K n) f) (i - f - 1) = gr (gp P f) (i - f - 1) := by
    rw [moved_row (by omega) (by omega)]
    unfold mrow
    rw [e1, hnot, if_neg (by simp)]
  refine ⟨hfi, hin', hrow, ?_⟩
  refine pairs_ext (n := n) (by rw [List.length_set, moved_len]) moved_len fun a ha => ?_
  by_cases haf : f = a
  · subst haf
    rw [gp_set_eq (by rw [moved_len]; exact ha)]
    refine rows_ext (n := n - 1 - f) (by rw [List.length_set, moved_rowlen ha]) (moved_rowlen ha) fun b hb => ?_
    rw [moved_row ha hb]
    by_cases hbi : i - f - 1 = b
    · subst hbi
      have e2 : gr ((gp (moved (came.take q) P L K n) f).set (i - f - 1) (va (gr (gp P f) (i - f - 1)) (vs (gr K i) (gr L i)))) (i - f - 1) = va (gr (gp P f) (i - f - 1)) (vs (gr K i) (gr L i)) := by
        simp [gr, List.getD, show i - f - 1 < (gp (moved (came.take q) P L K n) f).length by rw [moved_rowlen ha]; exact hb]
      rw [e2]
      unfold mrow
      rw [e1, if_pos ⟨by rw [fst_take (by omega), hf], by rw [hs_take hq]; simp [hi]⟩]
    · have e2 : gr ((gp (moved (came.take q) P L K n) f).set (i - f - 1) (va (gr (gp P f) (i - f - 1)) (vs (gr K i) (gr L i)))) b = gr (gp (moved (came.take q) P L K n) f) b := by
        simp [gr, List.getD, hbi]
      rw [e2, moved_row ha hb]
      unfold mrow
      have e3 : hs (came.take (q + 1)) (f + 1 + b) = hs (came.take q) (f + 1 + b) := by
        rw [hs_take hq, decide_eq_false (by omega), Bool.or_false]
      rw [e3, fst_take (by omega), fst_take (by omega)]
  · rw [gp_set_ne haf]
    refine rows_ext (n := n - 1 - a) (moved_rowlen ha) (moved_rowlen ha) fun b hb => ?_
    rw [moved_row ha hb, moved_row ha hb]
    unfold mrow
    rw [fst_take (by omega), fst_take (by omega), if_neg (fun h => haf (by rw [h.1, hf])), if_neg (fun h => haf (by rw [h.1, hf]))]
end
end Go.Proofs.YtihcolmkfmdbaaaDoor.It
