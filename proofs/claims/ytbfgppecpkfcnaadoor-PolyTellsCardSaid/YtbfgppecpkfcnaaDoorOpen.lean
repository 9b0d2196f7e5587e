/-
  Arguments that are slices of whole numbers, or slices of such slices, as the printed walks take them.
-/
import Derived.Test.YtbfgppecpkfcnaaDoorWWords
import Derived.Deep.Matrix
import Derived.Deep.Slices
import Derived.Deep.SlicePairs
import Derived.ProofKit
import Derived.OpenShut
namespace Go.Proofs.YtbfgppecpkfcnaaDoor.Open
open Go.RowKit Go.Proofs.YtbfgppecpkfcnaaDoorW.PrintWords Go.ChangeShapes Go.WideShapes Go.Deep

variable {H : Type} {enc : TypeId × Value → H} {P : Program} {w : World} {base : Nat}

/-- a slice of whole numbers -/
theorem ints_C {t e : TypeId} {k : IntKind} {a : Option Addr} {len cap : Nat} {d : DataW H} {p : List MemPlace} (ht : P.underlying t = some (.slice e)) (he : P.underlying e = some (.int k)) (ce : P.cellsOf e = 1)
    (h : DataW.Trod enc P w base (fun _ => true) true t (.slice a len cap) d p) :
    ∃ l : List Int, len = l.length ∧ (Kd.int k).C w a l.length l ∧ l.length ≤ cap ∧ cap ≤ maxLen ∧ ∀ n ∈ l, (Lit.int k n).wf = true := by
  obtain ⟨fuel, hf⟩ := h
  rcases open_ints ht he ce hf with ⟨hcs, _⟩ | ⟨x, l, c, zs, hcs, _, hl, hm, hz, _, hcell, hwz⟩
  · simp [Value.cells] at hcs
    obtain ⟨rfl, rfl, rfl⟩ := hcs
    exact ⟨[], rfl, Kd.C_nil _ _, Nat.le_refl _, Nat.zero_le _, by simp⟩
  · simp [Value.cells] at hcs
    obtain ⟨rfl, rfl, rfl⟩ := hcs
    have hzl : zs.length = cap := by simpa using hz
    have hlen : (zs.take len).length = len := by rw [List.length_take]; omega
    refine ⟨zs.take len, hlen.symm, ?_, by omega, hm, fun n hn => hwz n (List.mem_of_mem_take hn)⟩
    refine Kd.C_of_reads (enc := Value.int k) (d := (0 : Int)) (h1 := fun _ => rfl) ⟨rfl, by unfold maxLen at hm; omega, fun _ => ⟨x, rfl, fun j hj => ?_⟩⟩
    rw [hlen] at hj
    have h1 := hcell j (by omega)
    rw [h1]
    congr 2
    simp [List.getD, hj]

/-- a slice of slices of whole numbers -/
theorem rows_C {t e q : TypeId} {k : IntKind} {a : Option Addr} {len cap : Nat} {d : DataW H} {p : List MemPlace} (ht : P.underlying t = some (.slice e)) (he : P.underlying e = some (.slice q)) (hq : P.underlying q = some (.int k)) (ce : P.cellsOf e = 1) (cq : P.cellsOf q = 1)
    (h : DataW.Trod enc P w base (fun _ => true) true t (.slice a len cap) d p) :
    ∃ l : List (List Int), len = l.length ∧ (Kd.slice q (Kd.int k)).C w a l.length l ∧ l.length ≤ cap ∧ cap ≤ maxLen := by
  obtain ⟨fuel, hf⟩ := h
  rcases open_int_rows ht he hq ce cq hf with ⟨hcs, _⟩ | ⟨x, l, c, A, L, C, Z, hcs, _, hl, hm, _, hr⟩
  · simp [Value.cells] at hcs
    obtain ⟨rfl, rfl, rfl⟩ := hcs
    exact ⟨[], rfl, Kd.C_nil _ _, Nat.le_refl _, Nat.zero_le _⟩
  · simp [Value.cells] at hcs
    obtain ⟨rfl, rfl, rfl⟩ := hcs
    have hlen : ((List.range len).map fun r => (Z r).take (L r)).length = len := by simp
    refine ⟨(List.range len).map fun r => (Z r).take (L r), hlen.symm, ?_, by omega, hm⟩
    refine ⟨rfl, by unfold maxLen at hm; omega, fun _ => ⟨x, rfl, fun j u hj => ?_⟩⟩
    obtain ⟨hjl, hu⟩ := List.getElem?_eq_some_iff.1 hj
    rw [hlen] at hjl
    obtain ⟨h1, h2, h3, h4, _, h6, h7⟩ := hr j (by omega)
    have hu' : u = (Z j).take (L j) := by rw [← hu]; simp
    have hul : u.length = L j := by rw [hu', List.length_take]; omega
    refine ⟨[.slice (A j) (L j) (C j)], rfl, ⟨A j, C j, by rw [hul], by omega, ?_⟩, fun i v hv => ?_⟩
    · refine Kd.C_of_reads (enc := Value.int k) (d := (0 : Int)) (h1 := fun _ => rfl) ⟨rfl, by unfold maxLen at h3; omega, fun hp => ?_⟩
      rw [hul] at hp
      cases hA : A j with
      | none => have := h6 hA; omega
      | some ad =>
        refine ⟨ad, rfl, fun i hi => ?_⟩
        rw [hul] at hi
        have h8 := (h7 ad hA).2 i (by omega)
        rw [h8, hu']
        congr 2
        simp [List.getD, hi]
    · have hi : i = 0 := by
        have := (List.getElem?_eq_some_iff.1 hv).1
        simpa using this
      subst hi
      have hv' : Value.slice (A j) (L j) (C j) = v := by simpa using hv
      rw [← hv']
      show w.cell? (x.add (j * 1 + 0)) = _
      rw [Nat.mul_one, Nat.add_zero]
      exact h1

/-- an array of whole numbers -/
theorem ints_arr {t e n b0 : Nat} {r : Reach} {k : IntKind} {v : Value} {d : DataW H} {p : List MemPlace} (ht : P.underlying t = some (.array n e)) (he : P.underlying e = some (.int k)) (ce : P.cellsOf e = 1) (ct : P.cellsOf t = n)
    (hval : Value.okWide P w r b0 t v) (h : DataW.Trod enc P w base (fun _ => true) true t v d p) :
    ∃ l : List Int, l.length = n ∧ v = .agg (l.map (Value.int k)).toArray ∧ ∀ x ∈ l, (Lit.int k x).wf = true := by
  obtain ⟨cs, rfl, hs⟩ : ∃ cs, v = .agg cs ∧ cs.size = n := by
    unfold Value.okWide at hval
    rw [ht] at hval
    obtain ⟨cs, rfl, h1, _⟩ := hval
    exact ⟨cs, rfl, by rw [h1, ct]⟩
  obtain ⟨fuel, hf⟩ := h
  obtain ⟨xs, m, rfl, hx, hl, hn, hi⟩ := DataW.trod_array ht hf
  have hcs : (Value.agg cs).cells.toList = cs.toList := rfl
  rw [hcs, ce] at hi
  have hg : ∀ i, i < n → ∃ x, cs.toList[i]? = some (Value.int k x) ∧ (Lit.int k x).wf = true := by
    intro i hin
    have h1 := hi i hin
    rw [Nat.mul_one, List.getElem?_eq_getElem (by omega)] at h1
    obtain ⟨x, h2, _, h3⟩ := DataW.trod_int he h1
    refine ⟨x, ?_, h3⟩
    have h4 : ((cs.toList.drop i).take 1)[0]? = some (Value.int k x) := by rw [h2]; rfl
    simpa using h4
  let f : Value → Int := fun v => match v with | .int _ q => q | _ => 0
  refine ⟨cs.toList.map f, by simp [hs], ?_, ?_⟩
  · congr 1
    apply Array.ext'
    rw [List.map_map]
    refine List.ext_getElem? fun i => ?_
    by_cases h : i < n
    · obtain ⟨x, h5, _⟩ := hg i h
      simp only [List.getElem?_map]
      rw [h5]
      rfl
    · rw [List.getElem?_eq_none (by simp; omega), List.getElem?_eq_none (by simp; omega)]
  · intro x hx
    obtain ⟨v, hv, rfl⟩ := List.mem_map.1 hx
    obtain ⟨i, hin, rfl⟩ := List.mem_iff_getElem.1 hv
    obtain ⟨x, h5, h6⟩ := hg i (by simp at hin; omega)
    rw [List.getElem?_eq_getElem hin] at h5
    rw [Option.some.inj h5]
    exact h6

/-- what a cell is that is read as a slice of whole numbers -/
theorem ints_cell {t e fuel : Nat} {k : IntKind} {cs : List Value} {d : DataW H × List MemPlace} (ht : P.underlying t = some (.slice e)) (he : P.underlying e = some (.int k)) (ce : P.cellsOf e = 1)
    (hf : DataW.trod enc P w base (fun _ => true) true fuel t cs = some d) :
    ∃ (a : Option Addr) (cap : Nat) (l : List Int), cs = [.slice a l.length cap] ∧ (Kd.int k).C w a l.length l ∧ l.length ≤ cap ∧ ∀ n ∈ l, (Lit.int k n).wf = true := by
  rcases open_ints ht he ce hf with ⟨hcs, _⟩ | ⟨x, l, c, zs, hcs, _, hl, hm, hz, _, hcell, hwz⟩
  · exact ⟨none, 0, [], hcs, Kd.C_nil _ _, Nat.le_refl _, by simp⟩
  · have hzl : zs.length = c := by simpa using hz
    have hlen : (zs.take l).length = l := by rw [List.length_take]; omega
    refine ⟨some x, c, zs.take l, by rw [hlen]; exact hcs, ?_, by omega, fun n hn => hwz n (List.mem_of_mem_take hn)⟩
    refine Kd.C_of_reads (enc := Value.int k) (d := (0 : Int)) (h1 := fun _ => rfl) ⟨rfl, by unfold maxLen at hm; omega, fun _ => ⟨x, rfl, fun j hj => ?_⟩⟩
    rw [hlen] at hj
    have h1 := hcell j (by omega)
    rw [h1]
    congr 2
    simp [List.getD, hj]

/-- an array of two slices of whole numbers -/
theorem two_sls {t e q b0 : Nat} {r : Reach} {k : IntKind} {v : Value} {d : DataW H} {p : List MemPlace} (ht : P.underlying t = some (.array 2 e)) (he : P.underlying e = some (.slice q)) (hq : P.underlying q = some (.int k)) (ce : P.cellsOf e = 1) (cq : P.cellsOf q = 1) (ct : P.cellsOf t = 2)
    (hval : Value.okWide P w r b0 t v) (h : DataW.Trod enc P w base (fun _ => true) true t v d p) :
    ∃ (a b : Option Addr) (ca cb : Nat) (l m : List Int), v = .agg #[.slice a l.length ca, .slice b m.length cb] ∧ (Kd.int k).C w a l.length l ∧ l.length ≤ ca ∧ (∀ n ∈ l, (Lit.int k n).wf = true) ∧ (Kd.int k).C w b m.length m ∧ m.length ≤ cb ∧ (∀ n ∈ m, (Lit.int k n).wf = true) := by
  obtain ⟨cs, rfl, hs⟩ : ∃ cs, v = .agg cs ∧ cs.size = 2 := by
    unfold Value.okWide at hval
    rw [ht] at hval
    obtain ⟨cs, rfl, h1, _⟩ := hval
    exact ⟨cs, rfl, by rw [h1, ct]⟩
  obtain ⟨fuel, hf⟩ := h
  obtain ⟨xs, m, rfl, hx, hl, hn, hi⟩ := DataW.trod_array ht hf
  have hcs : (Value.agg cs).cells.toList = cs.toList := rfl
  rw [hcs, ce] at hi
  have h0 := hi 0 (by omega)
  have h1 := hi 1 (by omega)
  rw [Nat.mul_one, List.getElem?_eq_getElem (by omega)] at h0 h1
  obtain ⟨a, ca, l, e0, q1, q2, q3⟩ := ints_cell he hq cq h0
  obtain ⟨b, cb, m', e1, q4, q5, q6⟩ := ints_cell he hq cq h1
  refine ⟨a, b, ca, cb, l, m', ?_, q1, q2, q3, q4, q5, q6⟩
  congr 1
  apply Array.ext'
  refine List.ext_getElem? fun i => ?_
  have g0 : cs.toList[0]? = some (Value.slice a l.length ca) := by
    have : ((cs.toList.drop 0).take 1)[0]? = some (Value.slice a l.length ca) := by rw [e0]; rfl
    simpa using this
  have g1 : cs.toList[1]? = some (Value.slice b m'.length cb) := by
    have : ((cs.toList.drop 1).take 1)[0]? = some (Value.slice b m'.length cb) := by rw [e1]; rfl
    simpa using this
  match i with
  | 0 => rw [g0]; rfl
  | 1 => rw [g1]; rfl
  | i + 2 => rw [List.getElem?_eq_none (by simp; omega), List.getElem?_eq_none (by simp)]
/-- a slice of pairs of whole numbers in memory -/
def Pairs (k : IntKind) (w : World) (a : Option Addr) (l : List (Int × Int)) : Prop :=
  0 < l.length → ∃ b off, a = some ⟨b, off, none⟩ ∧ ∀ i, i < l.length → w.cell? ⟨b, off + i * 2, none⟩ = some (.int k (l.getD i (0, 0)).1) ∧ w.cell? ⟨b, off + i * 2 + 1, none⟩ = some (.int k (l.getD i (0, 0)).2)
/-- a slice of structs of two whole numbers -/
theorem prs_C {t e : TypeId} {f0 f1 : Field} {k : IntKind} {a : Option Addr} {len cap : Nat} {d : DataW H} {p : List MemPlace} (ht : P.underlying t = some (.slice e)) (he : P.underlying e = some (.struct #[f0, f1])) (ce : P.cellsOf e = 2) (o0 : f0.offset = 0) (o1 : f1.offset = 1)
    (u0 : P.underlying f0.type = some (.int k)) (u1 : P.underlying f1.type = some (.int k)) (c0 : P.cellsOf f0.type = 1) (c1 : P.cellsOf f1.type = 1)
    (h : DataW.Trod enc P w base (fun _ => true) true t (.slice a len cap) d p) :
    ∃ l : List (Int × Int), len = l.length ∧ Pairs k w a l ∧ l.length ≤ cap ∧ cap ≤ maxLen ∧ ∀ x ∈ l, (Lit.int k x.1).wf = true ∧ (Lit.int k x.2).wf = true := by
  obtain ⟨fuel, hf⟩ := h
  rcases open_slice_pairs ht he ce o0 o1 c0 c1 hf with ⟨hcs, _⟩ | ⟨ad, l, c, m, n, V0, V1, D0, D1, P0, P1, hcs, _, hl, hm, hmm, _, hi⟩
  · simp [Value.cells] at hcs
    obtain ⟨rfl, rfl, rfl⟩ := hcs
    exact ⟨[], rfl, fun h => absurd h (by simp), Nat.le_refl _, Nat.zero_le _, by simp⟩
  · simp [Value.cells] at hcs
    obtain ⟨rfl, rfl, rfl⟩ := hcs
    have hlm : len ≤ m := by rw [hmm]; split <;> omega
    let num : Value → Int := fun v => match v with | .int _ q => q | _ => 0
    have hg : ∀ i, i < len → w.cell? (ad.add (i * 2)) = some (.int k (num (V0 i))) ∧ w.cell? (ad.add (i * 2 + 1)) = some (.int k (num (V1 i))) ∧ (Lit.int k (num (V0 i))).wf = true ∧ (Lit.int k (num (V1 i))).wf = true := by
      intro i hin
      obtain ⟨h0, h1, h2, h3⟩ := hi i (by omega)
      obtain ⟨x, e0, _, wx⟩ := DataW.trod_int u0 h2
      obtain ⟨y, e1, _, wy⟩ := DataW.trod_int u1 h3
      have e0' : V0 i = .int k x := by simpa using e0
      have e1' : V1 i = .int k y := by simpa using e1
      rw [e0'] at h0 ⊢
      rw [e1'] at h1 ⊢
      exact ⟨h0, h1, wx, wy⟩
    refine ⟨(List.range len).map fun i => (num (V0 i), num (V1 i)), by simp, ?_, by simpa using hl, hm, ?_⟩
    · intro hp
      simp only [List.length_map, List.length_range] at hp ⊢
      obtain ⟨b, off, spot⟩ := ad
      have hspot : spot = none := by
        have := (hg 0 hp).1
        simpa [Addr.add] using World.cell?_spot this
      subst hspot
      refine ⟨b, off, rfl, fun i hin => ?_⟩
      obtain ⟨h0, h1, _, _⟩ := hg i hin
      rw [Go.WideShapes.add_plain] at h0 h1
      have e1 : off + (i * 2 + 1) = off + i * 2 + 1 := by omega
      rw [e1] at h1
      have eg : ((List.range len).map fun i => (num (V0 i), num (V1 i))).getD i (0, 0) = (num (V0 i), num (V1 i)) := by simp [List.getD, hin]
      rw [eg]
      exact ⟨h0, h1⟩
    · intro x hx
      simp only [List.mem_map, List.mem_range] at hx
      obtain ⟨i, hin, rfl⟩ := hx
      exact (hg i hin).2.2
/-- a slice of arrays of so many whole numbers in memory -/
def Arrs (k : IntKind) (n : Nat) (w : World) (a : Option Addr) (l : List (List Int)) : Prop :=
  0 < l.length → ∃ ad, a = some ad ∧ ∀ i, i < l.length → ∀ j, j < n → w.cell? (ad.add (i * n + j)) = some (.int k ((l.getD i []).getD j 0))
theorem arrs_C {t e x n : Nat} {k : IntKind} {a : Option Addr} {len cap : Nat} {d : DataW H} {p : List MemPlace} (ht : P.underlying t = some (.slice e)) (he : P.underlying e = some (.array n x)) (hx : P.underlying x = some (.int k)) (hce : P.cellsOf e = n) (hcx : P.cellsOf x = 1)
    (h : DataW.Trod enc P w base (fun _ => true) true t (.slice a len cap) d p) :
    ∃ l : List (List Int), len = l.length ∧ Arrs k n w a l ∧ l.length ≤ cap ∧ cap ≤ maxLen ∧ ∀ r ∈ l, r.length = n ∧ ∀ y ∈ r, (Lit.int k y).wf = true := by
  obtain ⟨fuel, h⟩ := h
  rcases open_slice ht h with ⟨hcs, _⟩ | ⟨ad, l, c, m, q, D, Pl, hcs, hb, hl, hm, hmm, _, hel⟩
  · simp [Value.cells] at hcs
    obtain ⟨rfl, rfl, rfl⟩ := hcs
    exact ⟨[], rfl, fun h => absurd h (by simp), Nat.le_refl _, Nat.zero_le _, by simp⟩
  · simp [Value.cells] at hcs
    obtain ⟨rfl, rfl, rfl⟩ := hcs
    have hlm : len ≤ m := by rw [hmm]; split <;> omega
    let num : Option Value → Int := fun v => match v with | some (.int _ q) => q | _ => 0
    have hcell : ∀ i, i < len → ∀ j, j < n → w.cell? (ad.add (i * n + j)) = some (.int k (num (w.cell? (ad.add (i * n + j))))) ∧ (Lit.int k (num (w.cell? (ad.add (i * n + j))))).wf = true := by
      intro i hi j hj
      obtain ⟨cs', h1, h2⟩ := hel i (by omega)
      rw [hce] at h1
      obtain ⟨_, hlen, hc⟩ := World.cells?_some h1
      obtain ⟨xs, m', _, _, _, hxs, hxi⟩ := DataW.trod_array he h2
      have h3 := hxi j hj
      rw [hcx, Nat.mul_one] at h3
      have h4 : (cs'.drop j).take 1 = [cs'[j]'(by omega)] := by
        rw [List.drop_eq_getElem_cons (by omega)]; rfl
      rw [h4, List.getElem?_eq_getElem (by omega)] at h3
      obtain ⟨v, e0, _, wv⟩ := DataW.trod_int hx h3
      have h5 := hc j hj
      rw [Go.Deep.add_add, List.getElem?_eq_getElem (by omega)] at h5
      have e1 : cs'[j]'(by omega) = .int k v := by simpa using e0
      rw [e1] at h5
      rw [h5]
      exact ⟨rfl, wv⟩
    refine ⟨(List.range len).map fun i => (List.range n).map fun j => num (w.cell? (ad.add (i * n + j))), by simp, ?_, by simpa using hl, hm, ?_⟩
    · intro hp
      refine ⟨ad, rfl, fun i hi j hj => ?_⟩
      simp only [List.length_map, List.length_range] at hi
      have e : ((((List.range len).map fun i => (List.range n).map fun j => num (w.cell? (ad.add (i * n + j)))).getD i []).getD j 0) = num (w.cell? (ad.add (i * n + j))) := by
        simp [List.getD, hi, hj]
      rw [e]
      exact (hcell i hi j hj).1
    · intro r hr
      simp only [List.mem_map, List.mem_range] at hr
      obtain ⟨i, hi, rfl⟩ := hr
      refine ⟨by simp, fun y hy => ?_⟩
      simp only [List.mem_map, List.mem_range] at hy
      obtain ⟨j, hj, rfl⟩ := hy
      exact (hcell i hi j hj).2
end Go.Proofs.YtbfgppecpkfcnaaDoor.Open
