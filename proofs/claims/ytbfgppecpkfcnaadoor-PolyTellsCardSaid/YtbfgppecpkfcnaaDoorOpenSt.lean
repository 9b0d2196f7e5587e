/-
  An argument that is a struct of two whole numbers.
-/
import Derived.Test.YtbfgppecpkfcnaaDoorOpen
import Derived.ChangeArms
namespace Go.Proofs.YtbfgppecpkfcnaaDoor.Open
open Go.RowKit Go.ChangeShapes Go.WideShapes Go.Deep
variable {H : Type} {enc : TypeId × Value → H} {P : Program} {w : World} {base : Nat}
theorem st_val {t b0 : Nat} {r : Reach} {f0 f1 : Field} {k0 k1 : IntKind} {v : Value} {d : DataW H} {p : List MemPlace} (ht : P.underlying t = some (.struct #[f0, f1])) (o0 : f0.offset = 0) (o1 : f1.offset = 1)
    (u0 : P.underlying f0.type = some (.int k0)) (u1 : P.underlying f1.type = some (.int k1)) (c0 : P.cellsOf f0.type = 1) (c1 : P.cellsOf f1.type = 1) (ct : P.cellsOf t = 2)
    (hval : Value.okWide P w r b0 t v) (h : DataW.Trod enc P w base (fun _ => true) true t v d p) :
    ∃ a b : Int, v = .agg #[.int k0 a, .int k1 b] ∧ (Lit.int k0 a).wf = true ∧ (Lit.int k1 b).wf = true := by
  obtain ⟨cs, rfl, hs⟩ : ∃ cs, v = .agg cs ∧ cs.size = 2 := by
    unfold Value.okWide at hval
    rw [ht] at hval
    obtain ⟨cs, rfl, h1, _⟩ := hval
    exact ⟨cs, rfl, by rw [h1, ct]⟩
  obtain ⟨fuel, hf⟩ := h
  obtain ⟨xs, m, rfl, hx, hl, hn, hi⟩ := DataW.trod_struct ht hf
  have hcs : (Value.agg cs).cells.toList = cs.toList := rfl
  rw [hcs] at hi
  have h0 := hi 0 f0 rfl
  have h1 := hi 1 f1 rfl
  rw [c0, o0] at h0
  rw [c1, o1] at h1
  have hn2 : xs.length = 2 := hn
  rw [List.getElem?_eq_getElem (by omega)] at h0 h1
  obtain ⟨a, e0, _, wa⟩ := DataW.trod_int u0 h0
  obtain ⟨b, e1, _, wb⟩ := DataW.trod_int u1 h1
  refine ⟨a, b, ?_, wa, wb⟩
  congr 1
  apply Array.ext'
  have hl2 : cs.toList.length = 2 := by simpa using hs
  match hc : cs.toList, hl2 with
  | [x, y], _ =>
    rw [hc] at e0 e1
    have q0 : x = .int k0 a := by simpa using e0
    have q1 : y = .int k1 b := by simpa using e1
    rw [q0, q1]
end Go.Proofs.YtbfgppecpkfcnaaDoor.Open
