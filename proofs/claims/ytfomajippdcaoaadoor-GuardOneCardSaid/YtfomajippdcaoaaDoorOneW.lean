/-
  The walk of GuardOne, over data that is well formed.
-/
import Derived.Test.YtfomajippdcaoaaDoorOne
import Derived.OpenShut
namespace Go.Proofs.YtfomajippdcaoaaDoor.Gu
open Go.RowKit Go.Proofs.YtfomajippdcaoaaDoorW.PrintWords Go.Proofs.YtfomajippdcaoaaDoor.PSet Go.Proofs.YtfomajippdcaoaaDoor.Sc
theorem one_wf (_ : True) (A : Option Addr) (ca : Nat) (who : List Int) (k : Int) (B : Option Addr) (cb : Nat) (asks : List (List Int)) (w : World) (hG : As.LaidG w)
    (C0 : (Kd.int .i64).C w A who.length who) (D0 : who.length ≤ ca) (_ : ca ≤ maxLen) (_ : ∀ x ∈ who, (Lit.int .i64 x).wf = true)
    (w1 : (Lit.int .u8 k).wf = true)
    (C2 : (Kd.slice 3 (Kd.int .i64)).C w B asks.length asks) (_ : asks.length ≤ cb) :
    Calls Tryd.prog 4 #[.slice A who.length ca, .int .u8 k, .slice B asks.length cb] w fun x w' => x = .returned (.bool true) ∧ Below w.heap.size w w' := by
  have b1 := bounds_u8 w1
  by_cases hn : who.length = 0 ∨ 100 < who.length
  · exact one_sure A B who.length ca asks.length cb k w hG hn
  · cases hi : inc (-1) who with
    | false => exact one_new A B who.length ca asks.length cb who k w hG (by omega) (by omega) b1.1 (by omega) ⟨C0, rfl, D0⟩ hi
    | true => exact one_go A B who.length ca asks.length cb who asks k w hG (by omega) (by omega) b1.1 (by omega) ⟨C0, rfl, D0⟩ C2 hi
end Go.Proofs.YtfomajippdcaoaaDoor.Gu
