/-
  The walk of GuardRuns, over data that is well formed.
-/
import Derived.Test.YtfomajippdcaoaaDoorRuns
import Derived.OpenShut
namespace Go.Proofs.YtfomajippdcaoaaDoor.Gu
open Go.RowKit Go.Proofs.YtfomajippdcaoaaDoorW.PrintWords Go.Proofs.YtfomajippdcaoaaDoor.PSet Go.Proofs.YtfomajippdcaoaaDoor.Sc
theorem runs_wf (_ : True) (A : Option Addr) (ca : Nat) (who : List Int) (need : Int) (B : Option Addr) (cb : Nat) (asks : List (List Int)) (w : World) (hG : As.LaidG w)
    (C0 : (Kd.int .i64).C w A who.length who) (D0 : who.length ≤ ca) (_ : ca ≤ maxLen) (_ : ∀ x ∈ who, (Lit.int .i64 x).wf = true)
    (_ : (Lit.int .i64 need).wf = true)
    (C2 : (Kd.slice 3 (Kd.int .i64)).C w B asks.length asks) (_ : asks.length ≤ cb) :
    Calls Tryd.prog 5 #[.slice A who.length ca, .int .i64 need, .slice B asks.length cb] w fun x w' => x = .returned (.bool true) ∧ Below w.heap.size w w' := by
  by_cases hn : 100 < who.length
  · exact runs_great A B who.length ca asks.length cb need w hG hn
  · cases hi : inc (-1) who with
    | false => exact runs_new A B who.length ca asks.length cb who need w hG hn ⟨C0, rfl, D0⟩ hi
    | true =>
      by_cases hd : need < 1 ∨ (who.length : Int) < need
      · exact runs_need A B who.length ca asks.length cb who need w hG hn ⟨C0, rfl, D0⟩ hi hd
      · exact runs_go A B who.length ca asks.length cb who asks need w hG hn (by omega) (by omega) ⟨C0, rfl, D0⟩ C2 hi
end Go.Proofs.YtfomajippdcaoaaDoor.Gu
