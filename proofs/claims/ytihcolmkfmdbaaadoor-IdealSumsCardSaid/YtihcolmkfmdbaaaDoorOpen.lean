/-
  Arguments as a walk takes them: slices of whatever depth, structs of slices, arrays of two numbers.
-/
import Derived.Test.YtihcolmkfmdbaaaDoorWWords
import Derived.Deep.Matrix
import Derived.Deep.Slices
import Derived.ProofKit
import Derived.OpenShut
import Derived.ChangeArms
namespace Go.Proofs.YtihcolmkfmdbaaaDoor.Open
open Go.RowKit Go.Proofs.YtihcolmkfmdbaaaDoorW.PrintWords Go.ChangeShapes Go.WideShapes Go.Deep

variable {H : Type} {enc : TypeId × Value → H} {P : Program} {w : World} {base : Nat}

/-- whatever is read at a type is an element of a kind, and good -/
def Opens {H α : Type} (enc : TypeId × Value → H) (P : Program) (w : World) (base : Nat) (e : TypeId) (d : Kd α) (good : α → Prop) : Prop :=
  ∀ (fuel : Nat) (cs : List Value) (x : DataW H × List MemPlace), DataW.trod enc P w base (fun _ => true) true fuel e cs = some x → ∃ a, d.K w a cs ∧ good a

theorem opens_int {e : TypeId} {k : IntKind} (he : P.underlying e = some (.int k)) : Opens enc P w base e (Kd.int k) (fun n => (Lit.int k n).wf = true) := by
  intro fuel cs x h
  obtain ⟨n, hn, _, hw⟩ := DataW.trod_int he h
  exact ⟨n, hn, hw⟩

theorem slice_cells {α : Type} {d : Kd α} {good : α → Prop} {t e : TypeId} (ht : P.underlying t = some (.slice e)) (ce : P.cellsOf e = d.sz) (hel : Opens enc P w base e d good)
    {fuel : Nat} {cs : List Value} {x : DataW H × List MemPlace} (h : DataW.trod enc P w base (fun _ => true) true fuel t cs = some x) :
    ∃ (A : Option Addr) (c : Nat) (l : List α), cs = [.slice A l.length c] ∧ l.length ≤ c ∧ c ≤ maxLen ∧ d.C w A l.length l ∧ ∀ a ∈ l, good a := by
  rcases open_slice ht h with ⟨rfl, _⟩ | ⟨ad, len, c, m, q, D, Pl, rfl, hb, hl, hm, hmm, _, hi⟩
  · exact ⟨none, 0, [], rfl, Nat.le_refl _, Nat.zero_le _, Kd.C_nil _ _, by simp⟩
  · have hlm : len ≤ m := by rw [hmm]; split <;> omega
    rw [ce] at hi
    have hg : ∀ n, n ≤ len → ∃ l : List α, l.length = n ∧ ∀ j p, l[j]? = some p → good p ∧ ∃ cs', cs'.length = d.sz ∧ d.K w p cs' ∧ ∀ i u, cs'[i]? = some u → w.cell? (ad.add (j * d.sz + i)) = some u := by
      intro n
      induction n with
      | zero => intro _; exact ⟨[], rfl, fun j p h => by simp at h⟩
      | succ n ih =>
        intro hn
        obtain ⟨l, h1, h2⟩ := ih (by omega)
        obtain ⟨cs', h3, h4⟩ := hi n (by omega)
        obtain ⟨_, hlen, hc⟩ := World.cells?_some h3
        obtain ⟨a, ha, hga⟩ := hel _ _ _ h4
        refine ⟨l ++ [a], by simp [h1], fun j p hj => ?_⟩
        rcases Nat.lt_or_ge j n with h | h
        · rw [List.getElem?_append_left (by omega)] at hj
          exact h2 j p hj
        · have hjl := (List.getElem?_eq_some_iff.1 hj).1
          simp only [List.length_append, List.length_singleton] at hjl
          obtain rfl : j = n := by omega
          have e : a = p := by simpa [← h1] using hj
          subst e
          refine ⟨hga, cs', hlen, ha, fun i u hiu => ?_⟩
          have hil : i < cs'.length := (List.getElem?_eq_some_iff.1 hiu).1
          have h5 := hc i (by omega)
          rw [Go.Deep.add_add] at h5
          rw [h5, hiu]
    obtain ⟨l, h1, h2⟩ := hg len (Nat.le_refl _)
    refine ⟨some ad, c, l, by rw [h1], by omega, hm, ⟨rfl, by unfold maxLen at hm; omega, fun _ => ⟨ad, rfl, fun j p hj => ?_⟩⟩, fun a ha => ?_⟩
    · obtain ⟨_, cs', h3, h4, h5⟩ := h2 j p hj
      exact ⟨cs', h3, h4, h5⟩
    · obtain ⟨j, hj, rfl⟩ := List.mem_iff_getElem.1 ha
      exact (h2 j _ (List.getElem?_eq_getElem hj)).1
theorem opens_slice {α : Type} {d : Kd α} {good : α → Prop} {t e : TypeId} (b : Nat) (ht : P.underlying t = some (.slice e)) (ce : P.cellsOf e = d.sz) (hel : Opens enc P w base e d good) :
    Opens enc P w base t (Kd.slice b d) (fun l => ∀ a ∈ l, good a) := by
  intro fuel cs x h
  obtain ⟨A, c, l, rfl, hl, _, hC, hg⟩ := slice_cells ht ce hel h
  exact ⟨l, ⟨A, c, rfl, hl, hC⟩, hg⟩
/-- a struct of two slices, by value -/
theorem struct2 {α β : Type} {d : Kd α} {d' : Kd β} {good : α → Prop} {good' : β → Prop} {t e e' b0 : TypeId} {r : Reach} {f0 f1 : Field} {v : Value} {x : DataW H} {p : List MemPlace}
    (ht : P.underlying t = some (.struct #[f0, f1])) (o0 : f0.offset = 0) (o1 : f1.offset = 1) (c0 : P.cellsOf f0.type = 1) (c1 : P.cellsOf f1.type = 1) (ct : P.cellsOf t = 2)
    (u0 : P.underlying f0.type = some (.slice e)) (u1 : P.underlying f1.type = some (.slice e')) (s0 : P.cellsOf e = d.sz) (s1 : P.cellsOf e' = d'.sz)
    (g0 : Opens enc P w base e d good) (g1 : Opens enc P w base e' d' good')
    (hval : Value.okWide P w r b0 t v) (h : DataW.Trod enc P w base (fun _ => true) true t v x p) :
    ∃ (A B : Option Addr) (c c' : Nat) (l : List α) (m : List β), v = .agg #[.slice A l.length c, .slice B m.length c'] ∧ (l.length ≤ c ∧ d.C w A l.length l ∧ ∀ a ∈ l, good a) ∧ (m.length ≤ c' ∧ d'.C w B m.length m ∧ ∀ a ∈ m, good' a) := by
  obtain ⟨cs, rfl, hs⟩ : ∃ cs, v = .agg cs ∧ cs.size = 2 := by
    unfold Value.okWide at hval
    rw [ht] at hval
    obtain ⟨cs, rfl, h1, _⟩ := hval
    exact ⟨cs, rfl, by rw [h1, ct]⟩
  obtain ⟨fuel, hf⟩ := h
  obtain ⟨xs, m, rfl, hx, hl, hn, hi⟩ := DataW.trod_struct ht hf
  have hcs : (Value.agg cs).cells.toList = cs.toList := rfl
  rw [hcs] at hi
  have h0 := hi 0 f0 rfl
  have h1 := hi 1 f1 rfl
  rw [c0, o0] at h0
  rw [c1, o1] at h1
  have hn2 : xs.length = 2 := hn
  rw [List.getElem?_eq_getElem (by omega)] at h0 h1
  obtain ⟨A, c, l, e0, q0, _, q1, q2⟩ := slice_cells u0 s0 g0 h0
  obtain ⟨B, c', k, e1, p0, _, p1, p2⟩ := slice_cells u1 s1 g1 h1
  refine ⟨A, B, c, c', l, k, ?_, ⟨q0, q1, q2⟩, ⟨p0, p1, p2⟩⟩
  congr 1
  apply Array.ext'
  have hl2 : cs.toList.length = 2 := by simpa using hs
  match hc : cs.toList, hl2 with
  | [x, y], _ =>
    rw [hc] at e0 e1
    have q0 : x = .slice A l.length c := by simpa using e0
    have q1 : y = .slice B k.length c' := by simpa using e1
    rw [q0, q1]
theorem slice1 {α : Type} {d : Kd α} {good : α → Prop} {t e : TypeId} {A : Option Addr} {len cap : Nat} {x : DataW H} {p : List MemPlace} (ht : P.underlying t = some (.slice e)) (ce : P.cellsOf e = d.sz) (hel : Opens enc P w base e d good)
    (h : DataW.Trod enc P w base (fun _ => true) true t (.slice A len cap) x p) : ∃ l : List α, len = l.length ∧ l.length ≤ cap ∧ d.C w A l.length l ∧ ∀ a ∈ l, good a := by
  obtain ⟨fuel, hf⟩ := h
  obtain ⟨A', c, l, e0, q0, _, q1, q2⟩ := slice_cells ht ce hel hf
  have e1 : (Value.slice A len cap).cells.toList = [Value.slice A len cap] := rfl
  rw [e1] at e0
  injection e0 with e2 _
  injection e2 with e3 e4 e5
  subst e3 e4 e5
  exact ⟨l, rfl, q0, q1, q2⟩
end Go.Proofs.YtihcolmkfmdbaaaDoor.Open
