/-
  A slice of arrays of two whole numbers, as the reader reads it: its cells.
-/
import Derived.Deep.Slices
import Derived.OpenShut
import Derived.WideShapes
namespace Go.Proofs.Ytfomajippdcaoaa.Rc
open Go.Deep

def numAt (w : World) (b o : Nat) : Int := match w.cell? ⟨b, o, none⟩ with | some (.int _ n) => n | _ => 0

theorem open_pairs {H : Type} {enc : TypeId × Value → H} {P : Program} {w : World} {base : Nat} {spare : Nat → Bool} {held : Bool}
    {t e x : TypeId} {k : IntKind} {fuel : Nat} {cs : List Value} {y : DataW H × List MemPlace}
    (ht : P.underlying t = some (.slice e)) (he : P.underlying e = some (.array 2 x)) (hx : P.underlying x = some (.int k)) (hce : P.cellsOf e = 2) (hcx : P.cellsOf x = 1)
    (h : DataW.trod enc P w base spare held fuel t cs = some y) :
    (∃ a cap, cs = [.slice a 0 cap]) ∨ ∃ b off len cap, cs = [.slice (some ⟨b, off, none⟩) len cap] ∧ len ≤ maxLen ∧
      ∀ i, i < len → ∀ j, j < 2 → w.cell? ⟨b, off + i * 2 + j, none⟩ = some (.int k (numAt w b (off + i * 2 + j))) ∧ (Lit.int k (numAt w b (off + i * 2 + j))).wf = true := by
  rcases open_slice ht h with ⟨rfl, _⟩ | ⟨a, len, cap, m, n, D, Pl, rfl, hb, hl, hm, hmm, _, hel⟩
  · exact Or.inl ⟨none, 0, rfl⟩
  · rcases Nat.eq_zero_or_pos len with rfl | hpos
    · exact Or.inl ⟨some a, cap, rfl⟩
    · right
      have hlm : len ≤ m := by rw [hmm]; split <;> omega
      have hcell : ∀ i, i < len → ∀ j, j < 2 → ∃ v, w.cell? (a.add (i * 2 + j)) = some (.int k v) ∧ (Lit.int k v).wf = true := by
        intro i hi j hj
        obtain ⟨cs', h1, h2⟩ := hel i (by omega)
        rw [hce] at h1
        obtain ⟨_, hlen, hc⟩ := World.cells?_some h1
        obtain ⟨xs, m', rfl, _, _, hxs, hxi⟩ := DataW.trod_array he h2
        have h3 := hxi j hj
        rw [hcx, Nat.mul_one] at h3
        have h4 : (cs'.drop j).take 1 = [cs'[j]'(by omega)] := by
          rw [List.drop_eq_getElem_cons (by omega)]; rfl
        rw [h4, List.getElem?_eq_getElem (by omega)] at h3
        obtain ⟨v, e0, _, wv⟩ := DataW.trod_int hx h3
        have h5 := hc j hj
        rw [add_add, List.getElem?_eq_getElem (by omega)] at h5
        have e1 : cs'[j]'(by omega) = .int k v := by simpa using e0
        rw [e1] at h5
        exact ⟨v, h5, wv⟩
      obtain ⟨b, off, spot⟩ := a
      have hspot : spot = none := by
        obtain ⟨v, hv, _⟩ := hcell 0 hpos 0 (by omega)
        simpa [Addr.add] using World.cell?_spot hv
      subst hspot
      refine ⟨b, off, len, cap, rfl, by omega, fun i hi j hj => ?_⟩
      obtain ⟨v, hv, wv⟩ := hcell i hi j hj
      rw [Go.WideShapes.add_plain] at hv
      have e1 : off + (i * 2 + j) = off + i * 2 + j := by omega
      rw [e1] at hv
      have e2 : numAt w b (off + i * 2 + j) = v := by unfold numAt; rw [hv]
      rw [e2]
      exact ⟨hv, wv⟩
end Go.Proofs.Ytfomajippdcaoaa.Rc
