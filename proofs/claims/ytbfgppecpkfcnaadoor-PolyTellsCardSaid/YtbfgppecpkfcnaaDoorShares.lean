/-
  Rows of points in memory, their cells, and an append to a full row.
-/
import Derived.Test.YtbfgppecpkfcnaaDoorPolySureF
import Derived.ArgAppend
import Derived.Lib.Hide
namespace Go.Proofs.YtbfgppecpkfcnaaDoor.PPoly
open Go.RowKit Go.Proofs.YtbfgppecpkfcnaaDoorW.PrintWords Go.Proofs.YtbfgppecpkfcnaaDoorW.PrintLast Go.Proofs.YtbfgppecpkfcnaaDoorW.PrintMore Go.Proofs.YtbfgppecpkfcnaaDoor.PFp Go.Proofs.YtbfgppecpkfcnaaDoor.Fq

structure Flat {α : Type} (d : Kd α) (en : α → List Value) : Prop where
  opens : ∀ {w : World} {x : α} {cs : List Value}, d.K w x cs → cs = en x
  mkM : ∀ (w : World) (base : Nat) (ok : Nat → Prop) (x : α), d.M w base ok x (en x)
  len : ∀ x : α, (en x).length = d.sz
  one : ∀ x : α, ∀ u ∈ en x, u.oneCell' = true
  pos : 0 < d.sz
def en74 (x : S74) : List Value := [.int .u64 x.f0, .int .u64 x.f1]
def en69 (x : S69) : List Value := [.int .u64 x.f0, .int .u64 x.f1]
theorem flat74 : Flat k74 en74 := ⟨fun h => k74_open h, fun w b ok x => k74_mkM w b ok x, fun _ => rfl, fun x u h => by simp [en74] at h; rcases h with rfl | rfl <;> rfl, by decide⟩
def enN (x : Int) : List Value := [.int .u64 x]
theorem flatN : Flat (Kd.int .u64) enN := ⟨fun h => h, fun w b ok x => rfl, fun _ => rfl, fun x u h => by simp [enN] at h; subst h; rfl, by decide⟩
theorem flat69 : Flat k69 en69 := ⟨fun h => k69_open h, fun w b ok x => k69_mkM w b ok x, fun _ => rfl, fun x u h => by simp [en69] at h; rcases h with rfl | rfl <;> rfl, by decide⟩

section
variable {α : Type} {d : Kd α} {en : α → List Value}
theorem Flat.len_all (F : Flat d en) : ∀ l : List α, (l.flatMap en).length = l.length * d.sz
  | [] => by simp
  | x :: l => by
    rw [List.flatMap_cons, List.length_append, F.len_all l, F.len x, List.length_cons, Nat.add_mul, Nat.one_mul, Nat.add_comm]
theorem Flat.find (F : Flat d en) : ∀ (l : List α) (j : Nat) (u : Value), (l.flatMap en)[j]? = some u → ∃ q r p, j = q * d.sz + r ∧ l[q]? = some p ∧ (en p)[r]? = some u
  | [], j, u, h => by simp at h
  | x :: l, j, u, h => by
    rw [List.flatMap_cons] at h
    rcases Nat.lt_or_ge j d.sz with hj | hj
    · rw [List.getElem?_append_left (by rw [F.len]; exact hj)] at h
      exact ⟨0, j, x, by omega, rfl, h⟩
    · rw [List.getElem?_append_right (by rw [F.len]; exact hj), F.len] at h
      obtain ⟨q, r, p, e, h1, h2⟩ := F.find l _ u h
      exact ⟨q + 1, r, p, by rw [Nat.add_mul]; omega, h1, h2⟩
theorem Flat.reps (F : Flat d en) (w : World) (base : Nat) (ok : Nat → Prop) : ∀ l : List α, Reps (d.M w base ok) d.sz l (l.flatMap en) := by
  intro l
  refine ⟨F.len_all l, ?_⟩
  induction l with
  | nil => intro j p h; simp at h
  | cons x l ih =>
    intro j p h
    cases j with
    | zero =>
      simp only [List.getElem?_cons_zero, Option.some.injEq] at h
      subst h
      rw [Nat.zero_mul, List.drop_zero, List.flatMap_cons, List.take_left' (F.len x)]
      exact F.mkM w base ok x
    | succ j =>
      simp only [List.getElem?_cons_succ] at h
      have e : List.drop ((j + 1) * d.sz) (List.flatMap en (x :: l)) = List.drop (j * d.sz) (List.flatMap en l) := by
        rw [List.flatMap_cons, show (j + 1) * d.sz = d.sz + j * d.sz by rw [Nat.add_mul]; omega, ← List.drop_drop, List.drop_left' (F.len x)]
      rw [e]
      exact ih j p h
theorem Flat.cells (F : Flat d en) {w : World} {ad : Addr} {n : Nat} {l : List α} (h : d.C w (some ad) n l) : ∀ (j : Nat) (u : Value), (l.flatMap en)[j]? = some u → w.cell? (ad.add j) = some u := by
  intro j u hj
  obtain ⟨q, r, p, rfl, h1, h2⟩ := F.find l j u hj
  obtain ⟨hl, _, h3⟩ := h
  have hq : q < l.length := by
    rcases Nat.lt_or_ge q l.length with h | h
    · exact h
    · rw [List.getElem?_eq_none h] at h1; cases h1
  obtain ⟨ad', e, hc⟩ := h3 (by omega)
  cases e
  obtain ⟨c, _, hK, hc2⟩ := hc q p h1
  rw [F.opens hK] at hc2
  exact hc2 r u h2

theorem Flat.append (F : Flat d en) {P : Program} {ops : Array Oper} {rest : List Oper} {o : Oper} {a : Act} {Q : Exit → Act → World → Prop} (w : World) (hgd : o.guard = none) (s x : Operand) (t e : TypeId)
    (hop : o.op = Op.call { callee := Callee.builtin Builtin.append, args := #[s, x], argTypes := #[t, t] }) (ht : P.underlying t = some (.slice e)) (z : Value) (bytes : Nat)
    (hi : (P.info? e).map (fun i => (i.zero, i.size, i.bytes)) = some (some z, d.sz, bytes)) (hzs : z.cells.size = d.sz) (A B : Option Addr) (n cap m c : Nat) (l k : List α) (hs : a.eval s = .slice A n cap) (hA : A = none → n = 0 ∧ cap = 0)
    (hx : a.eval x = .slice B m c) (hl : d.C w A n l) (hk : d.C w B m k) (hm : 0 < m) (hfull : cap < n + m) (hb : (n + m) * bytes ≤ 140737488355328) (h63 : n + m ≤ 1000000)
    (hK : ∀ v' w', d.R e w' w.heap.size (fun _ => True) v' (l ++ k) → Below w.heap.size w w' → wpList P ops Q rest (a.put o.dst v') w') : wpList P ops Q (o :: rest) a w := by
  obtain ⟨i, hie, him⟩ := Option.map_eq_some_iff.1 hi
  simp only [Prod.mk.injEq] at him
  obtain ⟨hz, hsz, hby⟩ := him
  have el : l.length = n := hl.1
  have ek : k.length = m := hk.1
  obtain ⟨bd, rfl, _⟩ := hk.2.2 hm
  refine wpList_append_grows w hgd s x t hop e i z d.sz bytes ht hie hz hsz hby hzs F.pos A n cap (l.flatMap en) hs hA (by rw [F.len_all, el]) ?_ bd m c (k.flatMap en) hx (by rw [F.len_all, ek]) (F.cells hk) ?_ hfull (by unfold maxLen; omega) hb ?_
  · rintro ad rfl
    exact F.cells hl
  · intro u hu
    obtain ⟨p, _, hp⟩ := List.mem_flatMap.1 hu
    exact F.one p u hp
  · intro v' w' hown hg
    refine hK v' w' ⟨fun _ _ => trivial, (l ++ k).flatMap en, ?_, F.reps _ _ _ _⟩ ?_
    · rw [List.length_append, el, ek, List.flatMap_append]
      exact hown
    · exact (Below.refl w.heap.size w).grown hg (Nat.le_refl _) (fun k h => by cases h)
theorem Flat.lit (F : Flat d en) {P : Program} {ops : Array Oper} {rest : List Oper} {o : Oper} {a : Act} {Q : Exit → Act → World → Prop} (W : World) (hgd : o.guard = none) {N : Tmp} (_hd : o.dst = some N) (e n : Nat) (xs : List α) (hn : xs.length = n) (hm : n ≤ 1000)
    (hrun : (execOp a.eval o).run P W = .ok (.value (.slice (some ⟨W.heap.size, 0, none⟩) n n)) (W.alloc (.cells (xs.flatMap en).toArray e)))
    (hK : ∀ g w1, W.heap.size ≤ g → d.R e w1 W.heap.size (fun _ => True) (.slice (some ⟨g, 0, none⟩) n n) xs → d.C w1 (some ⟨g, 0, none⟩) n xs → Below W.heap.size W w1 → wpList P ops Q rest (a.put o.dst (.slice (some ⟨g, 0, none⟩) n n)) w1) : wpList P ops Q (o :: rest) a W := by
  have hR : d.R e (W.alloc (.cells (xs.flatMap en).toArray e)) W.heap.size (fun _ => True) (.slice (some ⟨W.heap.size, 0, none⟩) n n) xs := by
    refine ⟨fun _ _ => trivial, xs.flatMap en, ⟨by rw [F.len_all], Or.inr ⟨W.heap.size, n, (xs.flatMap en).toArray, by rw [hn], Nat.le_refl _, heap_alloc_new _ _, by omega, by unfold maxLen; omega, by rw [List.size_toArray, F.len_all, hn], ?_⟩⟩, F.reps _ _ _ _⟩
    rw [List.take_of_length_le]
    rw [F.len_all]
    exact Nat.le_refl _
  obtain ⟨A, c, e1, _, hC⟩ := Kd.R_reads hR
  injection e1 with e1 e2 e3
  subst e1
  rw [hn] at hC
  refine wpList_plain hgd fun K' hK' => ?_
  unfold Oper.wp
  rw [hrun]
  exact hK' _ _ (hK W.heap.size _ (Nat.le_refl _) hR hC (below_alloc (Below.refl _ _) _))
end
end Go.Proofs.YtbfgppecpkfcnaaDoor.PPoly
