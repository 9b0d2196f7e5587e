/-
  The walk of VecTaken, over arrays as lists.
-/
import Derived.Test.YtbfgppecpkfcnaaDoorTaken
import Derived.OpenShut
namespace Go.Proofs.YtbfgppecpkfcnaaDoor.Vt
open Go.RowKit
theorem six {l : List Int} (h : l.length = 6) : ∃ a b c d e f, l = [a, b, c, d, e, f] := by
  match l, h with
  | [a, b, c, d, e, f], _ => exact ⟨a, b, c, d, e, f, rfl⟩
theorem taken_wf (_ : True) (l0 l1 : List Int) (k : Int) (w : World) (hG : As.LaidG w) (n0 : l0.length = 6) (w0 : ∀ x ∈ l0, (Lit.int .u32 x).wf = true) (n1 : l1.length = 6) (w1 : ∀ x ∈ l1, (Lit.int .u32 x).wf = true) (w2 : (Lit.int .u8 k).wf = true) :
    Calls Tryd.prog 9 #[.agg (l0.map (Value.int .u32)).toArray, .agg (l1.map (Value.int .u32)).toArray, .int .u8 k] w fun x w' => x = .returned (.bool true) ∧ Below w.heap.size w w' := by
  have b2 := bounds_u8 w2
  have hu : inU l0 := fun x hx => by have := bounds_u32 (w0 x hx); omega
  obtain ⟨a, b, c, d, e, f, rfl⟩ := six n0
  obtain ⟨a', b', c', d', e', f', rfl⟩ := six n1
  exact taken_walk a b c d e f a' b' c' d' e' f' k hu b2.1 (by omega) w hG
end Go.Proofs.YtbfgppecpkfcnaaDoor.Vt
