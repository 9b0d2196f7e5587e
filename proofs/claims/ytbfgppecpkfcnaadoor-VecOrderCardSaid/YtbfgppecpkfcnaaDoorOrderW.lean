/-
  The walk of VecOrder, over data that is well formed.
-/
import Derived.Test.YtbfgppecpkfcnaaDoorOrder
import Derived.Test.YtbfgppecpkfcnaaDoorOpen
import Derived.OpenShut
namespace Go.Proofs.YtbfgppecpkfcnaaDoor.Vo
open Go.RowKit Go.Proofs.YtbfgppecpkfcnaaDoorW.PrintWords Go.Proofs.YtbfgppecpkfcnaaDoor.PVec Go.Proofs.YtbfgppecpkfcnaaDoor.Vt
theorem rows8_of {w : World} {a : Option Addr} {l : List (List Int)} (h : Open.Arrs .u32 8 w a l) (h8 : Eight l) : Rows8 w a l := by
  intro hp
  obtain ⟨ad, rfl, hc⟩ := h hp
  refine ⟨ad, rfl, fun i hi => ?_⟩
  have hlen : (l.getD i []).length = 8 := by
    rw [List.getD_eq_getElem?_getD, List.getElem?_eq_getElem hi]
    exact h8 _ (List.getElem_mem _)
  refine ⟨?_, hlen⟩
  unfold Row
  rw [hlen]
  refine Kd.C_of_reads (enc := Value.int .u32) (d := (0 : Int)) (h1 := fun _ => rfl) ⟨hlen, by decide, fun _ => ⟨_, rfl, fun j hj => ?_⟩⟩
  rw [Go.Deep.add_add]
  exact hc i hi j hj
theorem order_wf (_ : True) (A : Option Addr) (ca : Nat) (l : List (List Int)) (X k : Int) (w : World) (hG : As.LaidG w)
    (C0 : Open.Arrs .u32 8 w A l) (_ : l.length ≤ ca) (_ : ca ≤ maxLen) (w0 : ∀ r ∈ l, r.length = 8 ∧ ∀ y ∈ r, (Lit.int .u32 y).wf = true)
    (w1 : (Lit.int .u8 X).wf = true) (_ : (Lit.int .u32 k).wf = true) :
    Calls Tryd.prog 8 #[.slice A l.length ca, .int .u8 X, .int .u32 k] w fun x w' => x = .returned (.bool true) ∧ Below w.heap.size w w' := by
  have b1 := bounds_u8 w1
  have h8 : Eight l := fun r hr => (w0 r hr).1
  by_cases hn : l.length = 0 ∨ 60 < l.length
  · exact order_sure A l.length ca X k w hG hn
  · exact order_go A l.length ca X k l w hG (by omega) (by omega) b1.1 b1.2 rfl h8 (rows8_of C0 h8)
end Go.Proofs.YtbfgppecpkfcnaaDoor.Vo
