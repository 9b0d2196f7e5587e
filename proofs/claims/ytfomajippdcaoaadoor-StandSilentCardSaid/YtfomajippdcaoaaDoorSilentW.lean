/-
  The walk of StandSilent, over numbers that are well formed.
-/
import Derived.Test.YtfomajippdcaoaaDoorSilent
import Derived.OpenShut
namespace Go.Proofs.YtfomajippdcaoaaDoor.St
open Go.RowKit
theorem silent_wf (_ : True) (a0 a1 a2 : Int) (w : World) (hG : As.LaidG w) (w0 : (Lit.int .u8 a0).wf = true) (w1 : (Lit.int .u8 a1).wf = true) (w2 : (Lit.int .u8 a2).wf = true) :
    Calls Tryd.prog 3 #[.int .u8 a0, .int .u8 a1, .int .u8 a2] w fun x w' => x = .returned (.bool true) ∧ Below w.heap.size w w' := by
  have b0 := bounds_u8 w0
  have b1 := bounds_u8 w1
  have b2 := bounds_u8 w2
  exact silent_walk a0 a1 a2 b0.1 b0.2 b1.1 b1.2 b2.1 b2.2 w hG
end Go.Proofs.YtfomajippdcaoaaDoor.St
