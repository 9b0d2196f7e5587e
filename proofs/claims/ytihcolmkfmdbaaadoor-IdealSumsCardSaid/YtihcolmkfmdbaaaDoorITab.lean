/-
  A table of the call's own in memory: its rows' heads can be written; what it says then.
-/
import Derived.Test.YtihcolmkfmdbaaaDoorIHand
import Derived.Test.YtihcolmkfmdbaaaDoorIPlain
namespace Go.Proofs.YtihcolmkfmdbaaaDoor.It
open Go.RowKit Go.Proofs.YtihcolmkfmdbaaaDoorW.PrintWords Go.Proofs.YtihcolmkfmdbaaaDoorW.PrintLast Go.Proofs.YtihcolmkfmdbaaaDoorW.PrintMore Go.Proofs.YtihcolmkfmdbaaaDoor.Ip Go.Proofs.YtihcolmkfmdbaaaDoor.Ih

/-- a row's head: where it lies, how long it is, how long it may be -/
abbrev Hd := Option Addr × Nat × Nat
def sl (h : Hd) : Value := .slice h.1 h.2.1 h.2.2
def h0 : Hd := (none, 0, 0)
abbrev KS : Kd Hd := Kd.scalar sl (fun _ => rfl)
/-- heads in a block of the call's own -/
abbrev Hs (e : Nat) (w : World) (base : Nat) (v : Value) (us : List Hd) : Prop := KS.R e w base (fun _ => True) v us
/-- a row of numbers whose memory no head shares -/
structure RowIn (w : World) (base : Nat) (h : Hd) (x : List Int) : Prop where
  len : h.2.1 = x.length
  cap : x.length ≤ h.2.2
  row : KU.C w h.1 x.length x
  far : ∀ ad, h.1 = some ad → 0 < x.length → ad.block < base ∨ ∃ cs, w.heap[ad.block]? = some (.cells cs 61 (0, 0))
section
variable {w w1 : World} {base e : Nat} {h : Hd} {x : List Int} {v : Value} {us : List Hd}
theorem C_blocks {A : Option Addr} {n : Nat} (hC : KU.C w A n x) (hb : ∀ ad, A = some ad → 0 < n → w1.heap[ad.block]? = w.heap[ad.block]?) : KU.C w1 A n x := by
  obtain ⟨c1, c2, c3⟩ := hC
  refine ⟨c1, c2, fun hp => ?_⟩
  obtain ⟨ad, rfl, hc⟩ := c3 hp
  refine ⟨ad, rfl, fun j p hj => ?_⟩
  obtain ⟨c, h1, h2, h3⟩ := hc j p hj
  refine ⟨c, h1, h2, fun i u hu => ?_⟩
  rw [← h3 i u hu]
  refine World.cell?_of_block ?_
  rw [add_block]
  exact hb ad rfl hp
theorem C_lt {A : Option Addr} {n : Nat} (hC : KU.C w A n x) : ∀ ad, A = some ad → 0 < n → ad.block < w.heap.size := by
  intro ad ha hp
  obtain ⟨c1, _, c3⟩ := hC
  obtain ⟨ad', e, hc⟩ := c3 hp
  rw [ha] at e
  cases e
  obtain ⟨c, h1, h2, h3⟩ := hc 0 _ (List.getElem?_eq_getElem (by omega))
  have h4 : c.length = 1 := h1
  have h5 := h3 0 _ (List.getElem?_eq_getElem (by omega))
  have h6 := World.block_lt_of_cell? w _ h5
  rwa [add_block] at h6
theorem RowIn.grown (h1 : RowIn w base h x) (_ : base ≤ w.heap.size) {row : Option Nat} (hg : w.grownBy w1 row) (hrow : ∀ g, row = some g → base ≤ g ∧ ∃ cs T, w.heap[g]? = some (.cells cs T (0, 0)) ∧ T ≠ 61) : RowIn w1 base h x := by
  have key : ∀ ad, h.1 = some ad → 0 < x.length → w1.heap[ad.block]? = w.heap[ad.block]? := by
    intro ad ha hp
    refine hg.block _ (C_lt h1.row ad ha hp) (fun e => ?_)
    obtain ⟨h3, cs, T, h4, h5⟩ := hrow _ e.symm
    rcases h1.far ad ha hp with h6 | ⟨cs', h6⟩
    · omega
    · rw [h4] at h6
      injection h6 with h6
      injection h6 with _ h7 _
      exact h5 h7
  refine ⟨h1.len, h1.cap, C_blocks h1.row key, fun ad ha hp => ?_⟩
  rcases h1.far ad ha hp with h6 | ⟨cs', h6⟩
  · exact Or.inl h6
  · exact Or.inr ⟨cs', by rw [key ad ha hp]; exact h6⟩
theorem RowIn.of_R {ok : Nat → Prop} (hR : Kd.R KU 61 w base ok (sl h) x) : RowIn w base h x := by
  obtain ⟨A, c, e1, hc, hC⟩ := Kd.R_reads hR
  have ht := Kd.R_typed hR
  obtain ⟨a, n, c'⟩ := h
  simp only [sl, Value.slice.injEq] at e1
  obtain ⟨rfl, rfl, rfl⟩ := e1
  refine ⟨rfl, hc, hC, fun ad ha _ => Or.inr ?_⟩
  have ha' : a = some ad := ha
  subst ha'
  exact ht ad.block rfl
theorem RowIn.old {A : Option Addr} {n c : Nat} (hC : KU.C w A n x) (hc : n ≤ c) (hlt : ∀ ad, A = some ad → 0 < n → ad.block < base) : RowIn w base (A, n, c) x := by
  have hl : x.length = n := hC.1
  subst hl
  exact ⟨rfl, hc, hC, fun ad ha hp => Or.inl (hlt ad ha hp)⟩
theorem RowIn.value {A : Option Addr} {n c : Nat} (h1 : RowIn w base (A, n, c) x) : n = x.length ∧ n ≤ c ∧ KU.C w A n x := by
  have e1 : n = x.length := h1.len
  subst e1
  exact ⟨rfl, h1.cap, h1.row⟩
end

/-! ### rows of heads -/
/-- every head is a row's -/
def Ins (w : World) (base : Nat) (us : List Hd) (L : List (List Int)) : Prop := us.length = L.length ∧ ∀ i, i < L.length → RowIn w base (us.getD i h0) (gr L i)
structure Own (w : World) (base : Nat) (v : Value) (L : List (List Int)) : Prop where
  heads : ∃ us, Hs 54 w base v us ∧ Ins w base us L
section
variable {w w1 : World} {base e : Nat} {v : Value} {us : List Hd} {L : List (List Int)}
theorem Ins.grown (h : Ins w base us L) (hbase : base ≤ w.heap.size) {row : Option Nat} (hg : w.grownBy w1 row) (hrow : ∀ g, row = some g → base ≤ g ∧ ∃ cs T, w.heap[g]? = some (.cells cs T (0, 0)) ∧ T ≠ 61) : Ins w1 base us L :=
  ⟨h.1, fun i hi => (h.2 i hi).grown hbase hg hrow⟩
theorem Ins.nil (w : World) (base : Nat) : Ins w base [] [] := ⟨rfl, fun i hi => absurd hi (by simp)⟩
theorem Ins.snoc (h : Ins w base us L) {u : Hd} {x : List Int} (hu : RowIn w base u x) : Ins w base (us ++ [u]) (L ++ [x]) := by
  refine ⟨by simp [h.1], fun i hi => ?_⟩
  have hl := h.1
  rcases Nat.lt_or_ge i L.length with hlt | hge
  · have e1 : (us ++ [u]).getD i h0 = us.getD i h0 := by simp [List.getD, List.getElem?_append_left (show i < us.length by omega)]
    have e2 : gr (L ++ [x]) i = gr L i := by simp [gr, List.getD, List.getElem?_append_left hlt]
    rw [e1, e2]
    exact h.2 i hlt
  · obtain rfl : i = L.length := by simp at hi; omega
    have e1 : (us ++ [u]).getD L.length h0 = u := by simp [List.getD, ← hl]
    have e2 : gr (L ++ [x]) L.length = x := by simp [gr, List.getD]
    rw [e1, e2]
    exact hu
theorem Ins.set (h : Ins w base us L) {i : Nat} {u : Hd} {x : List Int} (hu : RowIn w base u x) : Ins w base (us.set i u) (L.set i x) := by
  refine ⟨by simp [h.1], fun j hj => ?_⟩
  have hl := h.1
  rw [List.length_set] at hj
  by_cases e : i = j
  · subst e
    have e1 : (us.set i u).getD i h0 = u := by simp [List.getD, show i < us.length by omega]
    have e2 : gr (L.set i x) i = x := by simp [gr, List.getD, hj]
    rw [e1, e2]
    exact hu
  · have e1 : (us.set i u).getD j h0 = us.getD j h0 := by simp [List.getD, e]
    have e2 : gr (L.set i x) j = gr L j := by simp [gr, List.getD, e]
    rw [e1, e2]
    exact h.2 j hj
theorem hs_len (h : Hs e w base v us) : ∃ A c, v = .slice A us.length c ∧ us.length ≤ c := by
  obtain ⟨A, c, h1, h2, _⟩ := Kd.R_reads h
  exact ⟨A, c, h1, h2⟩
theorem hs_grown (h : Hs e w base v us) {row : Option Nat} (hg : w.grownBy w1 row) (hne : row = none ∨ row ≠ v.ownBlock) : Hs e w1 base v us := by
  rcases hne with rfl | hne
  · exact Kd.R_grown h hg (fun _ _ he => by cases he)
  · exact Kd.R_grown1 h rfl hg hne
/-- heads as rows of rows: read -/
theorem heads_C (hh : Hs e w base v us) (hi : Ins w base us L) : ∃ A c, v = .slice A L.length c ∧ L.length ≤ c ∧ KR.C w A L.length L := by
  obtain ⟨A, c, h1, h2, h3⟩ := Kd.R_reads hh
  have hl := hi.1
  rw [hl] at h1 h2 h3
  refine ⟨A, c, h1, h2, rfl, h3.2.1, fun hp => ?_⟩
  obtain ⟨ad, h4, h5⟩ := h3.2.2 hp
  refine ⟨ad, h4, fun j p hj => ?_⟩
  have hjl : j < L.length := (List.getElem?_eq_some_iff.1 hj).1
  have hp' : gr L j = p := by simp [gr, List.getD, hj]
  obtain ⟨cs, h6, h7, h8⟩ := h5 j (us.getD j h0) (by simp [List.getD, show j < us.length by omega])
  have hr := hi.2 j hjl
  rw [hp'] at hr
  have h7' : cs = [sl (us.getD j h0)] := h7
  refine ⟨cs, h6, ?_, h8⟩
  rw [h7']
  generalize us.getD j h0 = u at hr
  obtain ⟨a, n, c'⟩ := u
  obtain ⟨q1, q2, q3⟩ := hr.value
  subst q1
  exact ⟨a, c', rfl, q2, q3⟩
theorem Own.C (h : Own w base v L) : ∃ A c, v = .slice A L.length c ∧ L.length ≤ c ∧ KR.C w A L.length L := by
  obtain ⟨us, h1, h2⟩ := h.heads
  exact heads_C h1 h2
theorem Own.grown (h : Own w base v L) (hbase : base ≤ w.heap.size) {row : Option Nat} (hg : w.grownBy w1 row) (hne : row = none ∨ row ≠ v.ownBlock) (hrow : ∀ g, row = some g → base ≤ g ∧ ∃ cs T, w.heap[g]? = some (.cells cs T (0, 0)) ∧ T ≠ 61) : Own w1 base v L := by
  obtain ⟨us, h1, h2⟩ := h.heads
  exact ⟨us, hs_grown h1 hg hne, h2.grown hbase hg hrow⟩
theorem Own.typed (h : Own w base v L) : ∀ k, v.ownBlock = some k → base ≤ k ∧ ∃ cs T, w.heap[k]? = some (.cells cs T (0, 0)) ∧ T ≠ 61 := by
  obtain ⟨us, h1, h2⟩ := h.heads
  intro k hk
  obtain ⟨cs, h3⟩ := Kd.R_typed h1 k hk
  exact ⟨Kd.R_base h1 k hk, cs, 54, h3, by decide⟩
theorem Own.typed54 (h : Own w base v L) : ∀ k, v.ownBlock = some k → ∃ cs, w.heap[k]? = some (.cells cs 54 (0, 0)) := by
  obtain ⟨us, h1, h2⟩ := h.heads
  exact Kd.R_typed h1
theorem Own.nil (w : World) (base : Nat) : Own w base (.slice none 0 0) [] := ⟨[], Kd.R_nil _ _ _ _ _, Ins.nil _ _⟩
/-- one head is written -/
theorem Own.set {g n c i : Nat} {u : Hd} {x : List Int} (h : Own w base (.slice (some ⟨g, 0, none⟩) n c) L) (hbase : base ≤ w.heap.size) (hu : RowIn w base u x) :
    Own (w.setCell ⟨g, i, none⟩ (sl u)) base (.slice (some ⟨g, 0, none⟩) n c) (L.set i x) ∧ w.grownBy (w.setCell ⟨g, i, none⟩ (sl u)) (some g) := by
  have ht := h.typed
  obtain ⟨us, h1, h2⟩ := h.heads
  obtain ⟨q1, q2⟩ := Kd.R_putg h1 (i : Int) u
  rw [Int.toNat_natCast] at q1 q2
  have hrow : ∀ k, some g = some k → base ≤ k ∧ ∃ cs T, w.heap[k]? = some (.cells cs T (0, 0)) ∧ T ≠ 61 := fun k hk => ht k hk
  exact ⟨⟨us.set i u, q1, (h2.set hu).grown hbase q2 hrow⟩, q2⟩
theorem Own.cell {ad : Addr} {n c i : Nat} (h : Own w base (.slice (some ad) n c) L) (hi : i < L.length) : ∃ g u, ad = ⟨g, 0, none⟩ ∧ n = L.length ∧ w.cell? ⟨g, i, none⟩ = some (sl u) ∧ w.frozen? ⟨g, i, none⟩ = false ∧ RowIn w base u (gr L i) := by
  obtain ⟨us, h1, h2⟩ := h.heads
  obtain ⟨g, rfl⟩ := Kd.R_head h1
  obtain ⟨q1, q2, _⟩ := Kd.R_reads' h1
  have hl := h2.1
  obtain ⟨q3, q4⟩ := Kd.R_celln (d := h0) h1 (i : Int) (by omega) (by omega)
  rw [Int.toNat_natCast] at q3 q4
  exact ⟨g, us.getD i h0, rfl, by omega, q3, q4, h2.2 i hi⟩
theorem Own.some_ (h : Own w base v L) (hp : 0 < L.length) : ∃ g c, v = .slice (some ⟨g, 0, none⟩) L.length c ∧ base ≤ g := by
  obtain ⟨us, h1, h2⟩ := h.heads
  obtain ⟨A, c, e, hc⟩ := hs_len h1
  rw [h2.1] at e hc
  subst e
  cases A with
  | none =>
    have := (Kd.own_of_R h1).2
    rcases this with ⟨e, hn⟩ | ⟨g, cap, cur, e, _⟩
    · have := h2.1; omega
    · cases e
  | some ad =>
    obtain ⟨g, rfl⟩ := Kd.R_head h1
    exact ⟨g, c, rfl, Kd.R_base h1 g rfl⟩
end

/-! ### heads out of rows that are told -/
def toHd : Value → Hd
  | .slice a n c => (a, n, c)
  | _ => h0
theorem heads_of {α : Type} {e : Nat} {w : World} {base : Nat} {v : Value} {xs : List α} {R : α → List Value → Prop} (h : OwnRow R e 1 w base v xs) (hR : ∀ x cs, R x cs → ∃ a n c, cs = [Value.slice a n c]) :
    ∃ us : List Hd, Hs e w base v us ∧ us.length = xs.length ∧ ∀ i x, xs[i]? = some x → R x [sl (us.getD i h0)] := by
  obtain ⟨inner, ho, hr⟩ := h
  have hlen : inner.length = xs.length := by have := hr.1; omega
  have hin : ∀ (i : Nat) (x : α), xs[i]? = some x → ∃ a n c, inner[i]? = some (Value.slice a n c) ∧ R x [Value.slice a n c] := by
    intro i x hx
    have hi : i < xs.length := (List.getElem?_eq_some_iff.1 hx).1
    have h1 := hr.2 i x hx
    rw [Nat.mul_one, List.drop_eq_getElem_cons (by omega)] at h1
    have h2 : List.take 1 (inner[i] :: List.drop (i + 1) inner) = [inner[i]'(by omega)] := rfl
    rw [h2] at h1
    obtain ⟨a, n, c, e1⟩ := hR _ _ h1
    rw [e1] at h1
    injection e1 with e1 _
    exact ⟨a, n, c, by rw [List.getElem?_eq_getElem (by omega), e1], h1⟩
  have henc : encs sl (inner.map toHd) = inner := by
    unfold encs
    rw [List.map_map]
    apply List.ext_getElem (by simp)
    intro i h1 h2
    obtain ⟨a, n, c, e1, _⟩ := hin i xs[i] (List.getElem?_eq_getElem (by omega))
    rw [List.getElem?_eq_getElem h2] at e1
    injection e1 with e1
    simp [e1, toHd, sl]
  refine ⟨inner.map toHd, Kd.R_of_own ?_ (fun _ _ => trivial), by simp [hlen], fun i x hx => ?_⟩
  · rw [henc, List.length_map, hlen]; exact ho
  · obtain ⟨a, n, c, e1, h1⟩ := hin i x hx
    have e2 : (inner.map toHd).getD i h0 = (a, n, c) := by
      simp [List.getD, e1, toHd]
    rw [e2]
    exact h1
theorem own_of_R {w : World} {base : Nat} {ok : Nat → Prop} {v : Value} {L : List (List Int)} (h : KR.R 54 w base ok v L) : Own w base v L := by
  obtain ⟨us, h1, h2, h3⟩ := heads_of h.2 (fun x cs hM => by
    obtain ⟨u, rfl, hu⟩ := hM
    obtain ⟨A, c, rfl⟩ := Kd.R_slice hu
    exact ⟨_, _, _, rfl⟩)
  refine ⟨us, h1, h2, fun i hi => ?_⟩
  obtain ⟨u, e, hu⟩ := h3 i (gr L i) (by simp [gr, List.getD, hi])
  injection e with e _
  rw [← e] at hu
  exact RowIn.of_R hu
end Go.Proofs.YtihcolmkfmdbaaaDoor.It
