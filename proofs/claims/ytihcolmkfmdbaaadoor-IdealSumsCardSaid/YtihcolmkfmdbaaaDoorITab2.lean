/-
  A table of the call's own in memory: its pairs' rows lie apart; what a store says.
-/
import Derived.Test.YtihcolmkfmdbaaaDoorITab
namespace Go.Proofs.YtihcolmkfmdbaaaDoor.It
open Go.RowKit Go.Proofs.YtihcolmkfmdbaaaDoorW.PrintWords Go.Proofs.YtihcolmkfmdbaaaDoorW.PrintLast Go.Proofs.YtihcolmkfmdbaaaDoorW.PrintMore Go.Proofs.YtihcolmkfmdbaaaDoor.Ip Go.Proofs.YtihcolmkfmdbaaaDoor.Ih

/-- rows of rows of the call's own, and their heads; no two lie in one block -/
structure Prs (w : World) (base : Nat) (v1 : Value) (vs : List Hd) (P : List (List (List Int))) : Prop where
  heads : Hs 22 w base v1 vs
  len : vs.length = P.length
  own : ∀ i, i < P.length → Own w base (sl (vs.getD i h0)) (gp P i)
  apart : ∀ i j, i < P.length → j < P.length → i ≠ j → ∀ k, (sl (vs.getD i h0)).ownBlock = some k → (sl (vs.getD j h0)).ownBlock ≠ some k
structure TbH (w : World) (base : Nat) (v0 v1 : Value) (vs : List Hd) (O : List (List Int)) (P : List (List (List Int))) : Prop where
  bas : base ≤ w.heap.size
  own : Own w base v0 O
  prs : Prs w base v1 vs P
  apart : ∀ i, i < P.length → ∀ k, v0.ownBlock = some k → (sl (vs.getD i h0)).ownBlock ≠ some k
/-- a table of the call's own -/
def Tb (w : World) (base : Nat) (v0 v1 : Value) (O : List (List Int)) (P : List (List (List Int))) : Prop := ∃ vs, TbH w base v0 v1 vs O P
section
variable {w w1 : World} {base : Nat} {v0 v1 : Value} {vs : List Hd} {O : List (List Int)} {P : List (List (List Int))}
theorem gp_set_eq {i : Nat} {x : List (List Int)} (hi : i < P.length) : gp (P.set i x) i = x := by simp [gp, List.getD, hi]
theorem gp_set_ne {i j : Nat} {x : List (List Int)} (h : i ≠ j) : gp (P.set i x) j = gp P j := by simp [gp, List.getD, h]
theorem two_types {k T T' : Nat} {cs cs' : Array Value} (h : w.heap[k]? = some (.cells cs T (0, 0))) (h' : w.heap[k]? = some (.cells cs' T' (0, 0))) : T = T' := by
  rw [h] at h'
  injection h' with h'
  injection h' with _ h' _
theorem Prs.nil (w : World) (base : Nat) : Prs w base (.slice none 0 0) [] [] := ⟨Kd.R_nil _ _ _ _ _, rfl, fun i h => absurd h (by simp), fun i _ h => absurd h (by simp)⟩
theorem TbH.grown (h : TbH w base v0 v1 vs O P) {row : Option Nat} (hg : w.grownBy w1 row) (hrow : ∀ g, row = some g → base ≤ g ∧ ∃ cs T, w.heap[g]? = some (.cells cs T (0, 0)) ∧ T ≠ 61 ∧ T ≠ 54 ∧ T ≠ 22) : TbH w1 base v0 v1 vs O P := by
  have hr : ∀ g, row = some g → base ≤ g ∧ ∃ cs T, w.heap[g]? = some (.cells cs T (0, 0)) ∧ T ≠ 61 := fun g hg => by
    obtain ⟨a, cs, T, b, c, _⟩ := hrow g hg
    exact ⟨a, cs, T, b, c⟩
  have hne : ∀ v : Value, (∀ k : Nat, v.ownBlock = some k → ∃ cs, w.heap[k]? = some (.cells cs 54 (0, 0))) → row = none ∨ row ≠ v.ownBlock := by
    intro v hv
    cases row with
    | none => exact Or.inl rfl
    | some g =>
      refine Or.inr (fun e => ?_)
      obtain ⟨_, cs, T, h1, _, h2, _⟩ := hrow g rfl
      obtain ⟨cs', h3⟩ := hv g e.symm
      exact h2 (two_types h1 h3)
  refine ⟨Nat.le_trans h.bas hg.size, h.own.grown h.bas hg (hne _ h.own.typed54) hr, ⟨?_, h.prs.len, fun i hi => (h.prs.own i hi).grown h.bas hg (hne _ (h.prs.own i hi).typed54) hr, h.prs.apart⟩, h.apart⟩
  refine hs_grown h.prs.heads hg ?_
  cases row with
  | none => exact Or.inl rfl
  | some g =>
    refine Or.inr (fun e => ?_)
    obtain ⟨_, cs, T, h1, _, _, h2⟩ := hrow g rfl
    obtain ⟨cs', h3⟩ := Kd.R_typed h.prs.heads g e.symm
    exact h2 (two_types h1 h3)
theorem Tb.below (h : Tb w base v0 v1 O P) (hb : Below w.heap.size w w1) : Tb w1 base v0 v1 O P := by
  obtain ⟨vs, h⟩ := h
  exact ⟨vs, h.grown (grown_of_below hb none) (fun g e => by cases e)⟩
theorem Tb.drewN (h : Tb w base v0 v1 O P) (n : Nat) : Tb (w.drewN n) base v0 v1 O P := h.below (pw_below_drewN (Below.refl _ _) n)
theorem Tb.alloc (h : Tb w base v0 v1 O P) (o : Obj) : Tb (w.alloc o) base v0 v1 O P := h.below (below_alloc (Below.refl _ _) o)
/-- a box is written -/
theorem Tb.box {g T : Nat} {cs : Array Value} (h : Tb w base v0 v1 O P) (hb : w.heap[g]? = some (.cells cs T (0, 0))) (hg : base ≤ g) (hT : T ≠ 61 ∧ T ≠ 54 ∧ T ≠ 22) (i : Nat) (u : Value) : Tb (w.setCell ⟨g, i, none⟩ u) base v0 v1 O P := by
  obtain ⟨vs, h⟩ := h
  have hgr : w.grownBy (w.setCell ⟨g, i, none⟩ u) (some g) := ⟨rfl, rfl, rfl, Nat.le_of_eq (by simp), fun k _ hk => Below.heap_setCell w ⟨g, i, none⟩ u k (fun e => hk (by rw [e]))⟩
  exact ⟨vs, h.grown hgr (fun k e => by cases e; exact ⟨hg, cs, T, hb, hT⟩)⟩
/-- a head of Own is written -/
theorem Tb.setO {g n c i : Nat} {u : Hd} {x : List Int} (h : Tb w base (.slice (some ⟨g, 0, none⟩) n c) v1 O P) (hu : RowIn w base u x) :
    Tb (w.setCell ⟨g, i, none⟩ (sl u)) base (.slice (some ⟨g, 0, none⟩) n c) v1 (O.set i x) P ∧ w.grownBy (w.setCell ⟨g, i, none⟩ (sl u)) (some g) := by
  obtain ⟨vs, h⟩ := h
  obtain ⟨q1, q2⟩ := h.own.set (i := i) h.bas hu
  have hr : ∀ k, some g = some k → base ≤ k ∧ ∃ cs T, w.heap[k]? = some (.cells cs T (0, 0)) ∧ T ≠ 61 := fun k hk => h.own.typed k hk
  refine ⟨⟨vs, Nat.le_trans h.bas q2.size, q1, ⟨?_, h.prs.len, fun j hj => (h.prs.own j hj).grown h.bas q2 (Or.inr (fun e => h.apart j hj g rfl e.symm)) hr, h.prs.apart⟩, h.apart⟩, q2⟩
  refine hs_grown h.prs.heads q2 (Or.inr (fun e => ?_))
  obtain ⟨cs, h3⟩ := Kd.R_typed h.prs.heads g e.symm
  obtain ⟨cs', h4⟩ := h.own.typed54 g rfl
  exact absurd (two_types h3 h4) (by decide)
/-- a head of a pair's row is written -/
theorem TbH.setP {q n c i k : Nat} {u : Hd} {x : List Int} (h : TbH w base v0 v1 vs O P) (hi : i < P.length) (hv : sl (vs.getD i h0) = .slice (some ⟨q, 0, none⟩) n c) (hu : RowIn w base u x) :
    TbH (w.setCell ⟨q, k, none⟩ (sl u)) base v0 v1 vs O (P.set i ((gp P i).set k x)) ∧ w.grownBy (w.setCell ⟨q, k, none⟩ (sl u)) (some q) := by
  have ho := h.prs.own i hi
  rw [hv] at ho
  obtain ⟨q1, q2⟩ := ho.set (i := k) h.bas hu
  have hr : ∀ k, some q = some k → base ≤ k ∧ ∃ cs T, w.heap[k]? = some (.cells cs T (0, 0)) ∧ T ≠ 61 := fun k hk => ho.typed k hk
  have hq : (sl (vs.getD i h0)).ownBlock = some q := by rw [hv]; rfl
  refine ⟨⟨Nat.le_trans h.bas q2.size, h.own.grown h.bas q2 (Or.inr (fun e => h.apart i hi q e.symm hq)) hr, ⟨?_, by rw [h.prs.len, List.length_set], fun j hj => ?_, fun a b ha hb => h.prs.apart a b (by rwa [List.length_set] at ha) (by rwa [List.length_set] at hb)⟩, fun j hj => h.apart j (by rwa [List.length_set] at hj)⟩, q2⟩
  · refine hs_grown h.prs.heads q2 (Or.inr (fun e => ?_))
    obtain ⟨cs, h3⟩ := Kd.R_typed h.prs.heads q e.symm
    obtain ⟨cs', h4⟩ := ho.typed54 q rfl
    exact absurd (two_types h3 h4) (by decide)
  · rw [List.length_set] at hj
    by_cases e : i = j
    · subst e
      rw [gp_set_eq hi, hv]
      exact q1
    · rw [gp_set_ne e]
      exact (h.prs.own j hj).grown h.bas q2 (Or.inr (fun e2 => h.prs.apart i j hi hj e q hq e2.symm)) hr
theorem Prs.some_ (h : Prs w base v1 vs P) (hp : 0 < P.length) : ∃ g c, v1 = .slice (some ⟨g, 0, none⟩) P.length c ∧ base ≤ g := by
  obtain ⟨A, c, e, hc⟩ := hs_len h.heads
  rw [h.len] at e hc
  subst e
  cases A with
  | none =>
    rcases (Kd.own_of_R h.heads).2 with ⟨e, hn⟩ | ⟨g, cap, cur, e, _⟩
    · have := h.len; omega
    · cases e
  | some ad =>
    obtain ⟨g, rfl⟩ := Kd.R_head h.heads
    exact ⟨g, c, rfl, Kd.R_base h.heads g rfl⟩
/-- what a pair's row is, as it lies -/
theorem Prs.cell (h : Prs w base v1 vs P) {i : Nat} (hi : i < P.length) : ∃ g c A m, v1 = .slice (some ⟨g, 0, none⟩) P.length c ∧ w.cell? ⟨g, i, none⟩ = some (.slice A (gp P i).length m) ∧ sl (vs.getD i h0) = .slice A (gp P i).length m ∧ (0 < (gp P i).length → ∃ q, A = some ⟨q, 0, none⟩) := by
  obtain ⟨g, c, e, _⟩ := h.some_ (by omega)
  subst e
  have hl := h.len
  obtain ⟨q3, _⟩ := Kd.R_celln (d := h0) h.heads (i : Int) (by omega) (by omega)
  rw [Int.toNat_natCast] at q3
  have q3' : w.cell? ⟨g, i, none⟩ = Option.some (sl (vs.getD i h0)) := q3
  have ho := h.own i hi
  obtain ⟨A, m, e, _⟩ := ho.C
  rw [e] at q3' ho
  refine ⟨g, c, A, m, rfl, q3', e, fun hp => ?_⟩
  obtain ⟨q, c2, e2, _⟩ := ho.some_ hp
  injection e2 with e2 _ _
  exact ⟨q, e2⟩
theorem Tb.C (h : Tb w base v0 v1 O P) : (∃ A c, v0 = .slice A O.length c ∧ O.length ≤ c ∧ KR.C w A O.length O) ∧ ∃ A c, v1 = .slice A P.length c ∧ P.length ≤ c ∧ KP.C w A P.length P := by
  obtain ⟨vs, h⟩ := h
  refine ⟨h.own.C, ?_⟩
  have hi := h.prs
  obtain ⟨A, c, h1, h2, h3⟩ := Kd.R_reads hi.heads
  have hl := hi.len
  rw [hl] at h1 h2 h3
  refine ⟨A, c, h1, h2, rfl, h3.2.1, fun hp => ?_⟩
  obtain ⟨ad, h4, h5⟩ := h3.2.2 hp
  refine ⟨ad, h4, fun j p hj => ?_⟩
  have hjl : j < P.length := (List.getElem?_eq_some_iff.1 hj).1
  have hp' : gp P j = p := by simp [gp, List.getD, hj]
  obtain ⟨cs, h6, h7, h8⟩ := h5 j (vs.getD j h0) (by simp [List.getD, show j < vs.length by omega])
  obtain ⟨B, c', q1, q2, q3⟩ := (hi.own j hjl).C
  rw [hp'] at q1 q2 q3
  have h7' : cs = [sl (vs.getD j h0)] := h7
  refine ⟨cs, h6, ?_, h8⟩
  rw [h7', q1]
  exact ⟨B, c', rfl, q2, q3⟩
/-- a table out of what a copy is -/
theorem prs_of_S {ok : Nat → Prop} (h : Kd.S KP 22 w base ok v1 P) : ∃ vs, Prs w base v1 vs P ∧ ∀ i, i < P.length → ∀ k, (sl (vs.getD i h0)).ownBlock = some k → ok k := by
  obtain ⟨f, h⟩ := h
  obtain ⟨vs, h1, h2, h3⟩ := heads_of h.2 (fun x cs hM => by
    obtain ⟨u, rfl, hu⟩ := hM
    obtain ⟨A, c, rfl⟩ := Kd.R_slice hu
    exact ⟨_, _, _, rfl⟩)
  have hz : ∀ i, i < P.length → P.zipIdx[i]? = some (gp P i, i) := fun i hi => by
    rw [List.getElem?_zipIdx, List.getElem?_eq_getElem hi]
    simp [gp, List.getD, hi]
  have hR : ∀ i, i < P.length → KR.R 54 w base (fun k => (ok k ∧ some k ≠ v1.ownBlock) ∧ f k = i) (sl (vs.getD i h0)) (gp P i) := by
    intro i hi
    obtain ⟨u, e, hu⟩ := h3 i (gp P i, i) (hz i hi)
    injection e with e _
    rw [← e] at hu
    exact hu
  refine ⟨vs, ⟨h1, by rw [h2, List.length_zipIdx], fun i hi => own_of_R (hR i hi), fun i j hi hj hij k hk hk2 => ?_⟩, fun i hi k hk => ((hR i hi).1 k hk).1.1⟩
  have e1 := ((hR i hi).1 k hk).2
  have e2 := ((hR j hj).1 k hk2).2
  omega
theorem tb_of_S {ok0 ok1 : Nat → Prop} (hb : base ≤ w.heap.size) (h : Kd.S KR 54 w base ok0 v0 O) (h' : Kd.S KP 22 w base ok1 v1 P) (hok : ∀ k, ok1 k → some k ≠ v0.ownBlock) : Tb w base v0 v1 O P := by
  obtain ⟨vs, h1, h2⟩ := prs_of_S h'
  exact ⟨vs, hb, own_of_R (Kd.S_R h), h1, fun i hi k hk hk2 => hok k (h2 i hi k hk2) hk.symm⟩
end
end Go.Proofs.YtihcolmkfmdbaaaDoor.It
