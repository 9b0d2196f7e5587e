/-
  The walk of QuorumStays, over data that is well formed.
-/
import Derived.Test.YtfomajippdcaoaaDoorStays
import Derived.Test.YtfomajippdcaoaaDoorOpen
import Derived.OpenShut
namespace Go.Proofs.YtfomajippdcaoaaDoor.Qu
open Go.RowKit Go.Proofs.YtfomajippdcaoaaDoorW.PrintWords Go.Proofs.YtfomajippdcaoaaDoor.PSet Go.Proofs.YtfomajippdcaoaaDoor.Sc
theorem prs_of {w : World} {a : Option Addr} {l : List (Int × Int)} (h : Open.Pairs .i64 w a l) : Prs w a l.length (fun i => (l.getD i (0, 0)).1) (fun i => (l.getD i (0, 0)).2) := h
theorem stays_wf (_ : True) (X : Int) (of : List Int) (B : Option Addr) (cb : Nat) (acts : List (Int × Int)) (w : World) (hG : As.LaidG w)
    (w0 : (Lit.int .u8 X).wf = true) (n1 : of.length = 2) (w1 : ∀ x ∈ of, (Lit.int .u8 x).wf = true)
    (C2 : Open.Pairs .i64 w B acts) (_ : acts.length ≤ cb) (_ : cb ≤ maxLen) (_ : ∀ x ∈ acts, (Lit.int .i64 x.1).wf = true ∧ (Lit.int .i64 x.2).wf = true) :
    Calls Tryd.prog 8 #[.int .u8 X, .agg (of.map (Value.int .u8)).toArray, .slice B acts.length cb] w fun x w' => x = .returned (.bool true) ∧ Below w.heap.size w w' := by
  match of, n1 with
  | [Y, Z], _ =>
    have b0 := bounds_u8 w0
    have b1 := bounds_u8 (w1 Y (by simp))
    have b2 := bounds_u8 (w1 Z (by simp))
    exact stays_walk X Y Z B acts.length cb _ _ b0.1 b0.2 b1.1 b1.2 b2.1 b2.2 w hG (prs_of C2)
end Go.Proofs.YtfomajippdcaoaaDoor.Qu
