/-
  Words for the walk of ideal.Shown: what has been told up to a place; rows of noughts.
-/
import Derived.Test.YtihcolmkfmdbaaaDoorICalls
namespace Go.Proofs.YtihcolmkfmdbaaaDoor.It
open Go.RowKit Go.Proofs.YtihcolmkfmdbaaaDoorW.PrintWords Go.Proofs.YtihcolmkfmdbaaaDoorW.PrintLast Go.Proofs.YtihcolmkfmdbaaaDoorW.PrintMore Go.Proofs.YtihcolmkfmdbaaaDoor.Ip Go.Proofs.YtihcolmkfmdbaaaDoor.Ih Go.Proofs.YtihcolmkfmdbaaaDoor.PId

theorem bt_start {w W w10 : World} {g3 g6 g10 : Nat} {sO sP v0 v1 : Value} {O : List (List Int)} {P : List (List (List Int))} (S : Bx w W g3 g6 32 sO sP) (T : Tb W w.heap.size v0 v1 O P) (e : g10 = W.heap.size) (k : w10.heap[g10]? = some (.cells #[.slice none 0 0, .slice none 0 0] 32 (0, 0))) (hb : Below W.heap.size W w10) :
    Bt w ((w10.setCell ⟨g10, 0, none⟩ v0).setCell ⟨g10, 1, none⟩ v1) g6 g10 v0 v1 O P := by
  have hl : w.heap.size ≤ g10 := by rw [e]; exact S.bel.size
  have hne : g6 ≠ g10 := by have := blk_lt S.b6; omega
  have k1 : (w10.setCell ⟨g10, 0, none⟩ v0).heap[g10]? = some (.cells #[v0, .slice none 0 0] 32 (0, 0)) := blk_put (cs := #[.slice none 0 0, .slice none 0 0]) k 0 v0 rfl
  have h6 : w10.heap[g6]? = some (.cells #[.slice none 0 0, .slice none 0 0] 32 (0, 0)) := (hb.block _ (blk_lt S.b6)).trans S.b6
  refine ⟨below_set (below_set (below_step S.bel hb) hl) hl, blk_far (blk_far h6 hne v0) hne v1, blk_put (cs := #[v0, .slice none 0 0]) k1 1 v1 rfl, S.l6, hl, hne, ?_⟩
  exact ((T.below hb).box k hl (by decide) 0 v0).box k1 hl (by decide) 1 v1
/-- a row of noughts, just made -/
theorem made_row (W : World) (base d : Nat) (hd : d ≤ 32) : RowIn (W.alloc (.cells (madeCells #[.int .u32 0] d) 61)) base (some ⟨W.heap.size, 0, none⟩, d, d) (zr d) := by
  have h := own_made' (base := W.heap.size) W 61 .u32 d (Nat.le_refl _) (by omega)
  have h1 : Kd.R KU 61 (W.alloc (.cells (madeCells #[.int .u32 0] d) 61)) W.heap.size (fun _ => True) (.slice (some ⟨W.heap.size, 0, none⟩) d d) (List.replicate d 0) := Kd.R_of_own h (fun _ _ => trivial)
  exact rowIn_R h1
theorem makes (d : Nat) (hd : d ≤ 32) : ∀ W : World, (Instr.makeSlice 54 (.int .i64 d) (.int .i64 d)).run Tryd.prog W = .ok (.slice (some ⟨W.heap.size, 0, none⟩) d d) (W.alloc (.cells (madeCells #[.int .u32 0] d) 61)) := by
  intro W
  have h := print_make_int (P := Tryd.prog) 54 61 (.int .u32 0) 4 Tryd.underlying54 u54 rfl (by decide) (d : Int) (by omega) (by simp; omega) W
  simpa using h
section
variable {came : List Int} {O : List (List Int)} {P : List (List (List Int))} {n d : Nat}
def OJ (came : List Int) (O : List (List Int)) (n d j : Nat) : List (List Int) := (shownO came O n d).take j ++ O.drop j
def PJ (came : List Int) (P : List (List (List Int))) (n d j : Nat) : List (List (List Int)) := (shownP came P n d).take j ++ P.drop j
def PQ (came : List Int) (P : List (List (List Int))) (n d j q : Nat) : List (List (List Int)) := (PJ came P n d j).set j ((gp (shownP came P n d) j).take q ++ (gp P j).drop q)
theorem shownO_len : (shownO came O n d).length = n := by simp [shownO]
theorem shownP_len : (shownP came P n d).length = n := by simp [shownP]
theorem shownO_at {j : Nat} (hj : j < (shownO came O n d).length) : (shownO came O n d)[j] = if hs came j = true then gr O j else zr d := by simp [shownO]
theorem shownP_at {j : Nat} (hj : j < n) : gp (shownP came P n d) j = (List.range (n - 1 - j)).map fun q => shownR came P d j q := by simp [gp, shownP, List.getD, hj]
theorem gr_get {L : List (List Int)} {j : Nat} (hj : j < L.length) : L[j] = gr L j := by simp [gr, List.getD, hj]
theorem gp_get {L : List (List (List Int))} {j : Nat} (hj : j < L.length) : L[j] = gp L j := by simp [gp, List.getD, hj]
theorem OJ_len (F : Fit O P n d) (j : Nat) : (OJ came O n d j).length = n := mix_len shownO_len F.own
theorem PJ_len (F : Fit O P n d) (j : Nat) : (PJ came P n d j).length = n := mix_len shownP_len F.prs
theorem OJ_end (F : Fit O P n d) : OJ came O n d n = shownO came O n d := mix_all shownO_len F.own
theorem PJ_end (F : Fit O P n d) : PJ came P n d n = shownP came P n d := mix_all shownP_len F.prs
theorem OJ_in (F : Fit O P n d) {j : Nat} (hj : j < n) (h : hs came j = true) : OJ came O n d (j + 1) = OJ came O n d j := by
  have ho := F.own
  refine (mix_same (A := shownO came O n d) (B := O) (by rw [shownO_len, ho]) (by rw [shownO_len]; exact hj) ?_).symm
  rw [shownO_at, if_pos h, gr_get (by omega)]
theorem OJ_out (F : Fit O P n d) {j : Nat} (hj : j < n) (h : hs came j = false) : (OJ came O n d j).set j (zr d) = OJ came O n d (j + 1) := by
  have ho := F.own
  have := mix_step (A := shownO came O n d) (B := O) (j := j) (by rw [shownO_len, ho]) (by rw [shownO_len]; exact hj)
  rw [shownO_at, h, if_neg (by decide)] at this
  exact this
theorem PJ_at (F : Fit O P n d) {j : Nat} (hj : j < n) : gp (PJ came P n d j) j = gp P j := by
  have hp := F.prs
  have hl : (PJ came P n d j).length = n := PJ_len F j
  rw [← gp_get (show j < (PJ came P n d j).length by omega), ← gp_get (show j < P.length by omega)]
  simp only [PJ]
  rw [List.getElem_append_right (by rw [List.length_take]; exact Nat.min_le_left _ _)]
  simp [shownP_len, Nat.min_eq_left (Nat.le_of_lt hj)]
theorem PQ_len (F : Fit O P n d) (j q : Nat) : (PQ came P n d j q).length = n := by simp [PQ, PJ_len F j]
theorem PQ_zero (F : Fit O P n d) {j : Nat} (hj : j < n) : PQ came P n d j 0 = PJ came P n d j := by
  have hl : (PJ came P n d j).length = n := PJ_len F j
  have h := PJ_at (came := came) F hj
  rw [← gp_get (show j < (PJ came P n d j).length by omega)] at h
  simp only [PQ, List.take_zero, List.drop_zero, List.nil_append]
  rw [← h]
  exact List.set_getElem_self _
theorem PQ_at (F : Fit O P n d) {j q : Nat} (hj : j < n) : gp (PQ came P n d j q) j = (gp (shownP came P n d) j).take q ++ (gp P j).drop q := by
  rw [PQ, gp_set_eq (by rw [PJ_len F]; exact hj)]
theorem rowP_len {j : Nat} (hj : j < n) : (gp (shownP came P n d) j).length = n - 1 - j := by rw [shownP_at hj]; simp
theorem PQ_at_len (F : Fit O P n d) {j q : Nat} (hj : j < n) : (gp (PQ came P n d j q) j).length = n - 1 - j := by
  rw [PQ_at F hj, mix_len (rowP_len hj) (F.pl j hj)]
theorem PQ_end (F : Fit O P n d) {j : Nat} (hj : j < n) : PQ came P n d j (n - 1 - j) = PJ came P n d (j + 1) := by
  have hp := F.prs
  rw [PQ, mix_all (rowP_len hj) (F.pl j hj)]
  have := mix_step (A := shownP came P n d) (B := P) (j := j) (by rw [shownP_len, hp]) (by rw [shownP_len]; exact hj)
  rw [gp_get] at this
  exact this
theorem rowP_at {j q : Nat} (hj : j < n) (hq : q < (gp (shownP came P n d) j).length) : (gp (shownP came P n d) j)[q] = shownR came P d j q := by
  simp [shownP_at hj]
theorem PQ_out (F : Fit O P n d) {j q : Nat} (hj : j < n) (hq : q < n - 1 - j) (h : hs came j = hs came (j + 1 + q)) : (PQ came P n d j q).set j ((gp (PQ came P n d j q) j).set q (zr d)) = PQ came P n d j (q + 1) := by
  have h1 := mix_step (A := gp (shownP came P n d) j) (B := gp P j) (j := q) (by rw [rowP_len hj, F.pl j hj]) (by rw [rowP_len hj]; exact hq)
  rw [rowP_at hj] at h1
  unfold shownR at h1
  rw [if_pos h] at h1
  rw [PQ_at F hj, h1]
  simp only [PQ, List.set_set]
theorem PQ_in (F : Fit O P n d) {j q : Nat} (hj : j < n) (hq : q < n - 1 - j) (h : hs came j ≠ hs came (j + 1 + q)) : PQ came P n d j (q + 1) = PQ came P n d j q := by
  have h1 := mix_same (A := gp (shownP came P n d) j) (B := gp P j) (j := q) (by rw [rowP_len hj, F.pl j hj]) (by rw [rowP_len hj]; exact hq) (by
    rw [rowP_at hj, gr_get]
    unfold shownR
    rw [if_neg h])
  simp only [PQ, h1]
end
/-- what the walk asks of a table in a box -/
theorem Bt.ownCell {w W : World} {g6 g10 n c j : Nat} {A : Option Addr} {v1 : Value} {O : List (List Int)} {P : List (List (List Int))} (h : Bt w W g6 g10 (.slice A n c) v1 O P) (hj : j < O.length) : ∃ g u, A = some ⟨g, 0, none⟩ ∧ W.cell? ⟨g, j, none⟩ = some (sl u) ∧ W.frozen? ⟨g, j, none⟩ = false ∧ RowIn W w.heap.size u (gr O j) := by
  obtain ⟨vs, ht⟩ := h.tb
  obtain ⟨g, c2, e, _⟩ := ht.own.some_ (by omega)
  injection e with e _ _
  subst e
  obtain ⟨g', u, e, _, h1, h2, h3⟩ := ht.own.cell hj
  cases e
  exact ⟨_, u, rfl, h1, h2, h3⟩
theorem Bt.pairCell {w W : World} {g6 g10 n c j : Nat} {B : Option Addr} {v0 : Value} {O : List (List Int)} {P : List (List (List Int))} (h : Bt w W g6 g10 v0 (.slice B n c) O P) (hj : j < P.length) :
    ∃ vs g A m, B = some ⟨g, 0, none⟩ ∧ W.cell? ⟨g, j, none⟩ = some (.slice A (gp P j).length m) ∧ TbH W w.heap.size v0 (.slice B n c) vs O P ∧ sl (vs.getD j h0) = .slice A (gp P j).length m ∧ (0 < (gp P j).length → ∃ q, A = some ⟨q, 0, none⟩) := by
  obtain ⟨vs, ht⟩ := h.tb
  obtain ⟨g, c2, A, m, e, h1, h2, h3⟩ := ht.prs.cell hj
  injection e with e _ _
  exact ⟨vs, g, A, m, e, h1, ht, h2, h3⟩
theorem TbH.pairRow {w : World} {base j q m k : Nat} {v0 v1 : Value} {vs : List Hd} {O : List (List Int)} {P : List (List (List Int))} (h : TbH w base v0 v1 vs O P) (hj : j < P.length) (e : sl (vs.getD j h0) = .slice (some ⟨q, 0, none⟩) m k) (i : Nat) (hi : i < (gp P j).length) :
    ∃ u, w.cell? ⟨q, i, none⟩ = some (sl u) ∧ w.frozen? ⟨q, i, none⟩ = false ∧ RowIn w base u (gr (gp P j) i) := by
  have ho := h.prs.own j hj
  rw [e] at ho
  obtain ⟨g, u, e2, _, h1, h2, h3⟩ := ho.cell hi
  cases e2
  exact ⟨u, h1, h2, h3⟩
end Go.Proofs.YtihcolmkfmdbaaaDoor.It
