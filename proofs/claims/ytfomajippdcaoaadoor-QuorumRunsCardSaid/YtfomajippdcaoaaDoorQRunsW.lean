/-
  The walk of QuorumRuns, over data that is well formed.
-/
import Derived.Test.YtfomajippdcaoaaDoorQRuns
import Derived.Test.YtfomajippdcaoaaDoorOpen
import Derived.OpenShut
namespace Go.Proofs.YtfomajippdcaoaaDoor.Qu
open Go.RowKit Go.Proofs.YtfomajippdcaoaaDoorW.PrintWords Go.Proofs.YtfomajippdcaoaaDoor.PSet Go.Proofs.YtfomajippdcaoaaDoor.Sc
theorem qruns_wf (_ : True) (A : Option Addr) (ca : Nat) (who : List Int) (of : List Int) (B : Option Addr) (cb : Nat) (acts : List (Int × Int)) (w : World) (hG : As.LaidG w)
    (C0 : (Kd.int .i64).C w A who.length who) (D0 : who.length ≤ ca) (_ : ca ≤ maxLen) (_ : ∀ x ∈ who, (Lit.int .i64 x).wf = true)
    (n1 : of.length = 2) (_ : ∀ x ∈ of, (Lit.int .i64 x).wf = true)
    (C2 : Open.Pairs .i64 w B acts) (_ : acts.length ≤ cb) (_ : cb ≤ maxLen) (_ : ∀ x ∈ acts, (Lit.int .i64 x.1).wf = true ∧ (Lit.int .i64 x.2).wf = true) :
    Calls Tryd.prog 7 #[.slice A who.length ca, .agg (of.map (Value.int .i64)).toArray, .slice B acts.length cb] w fun x w' => x = .returned (.bool true) ∧ Below w.heap.size w w' := by
  match of, n1 with
  | [need, term], _ =>
    have hp : Prs w B acts.length (fun i => (acts.getD i (0, 0)).1) (fun i => (acts.getD i (0, 0)).2) := C2
    by_cases hn : 100 < who.length
    · exact qruns_great A B who.length ca acts.length cb need term w hG hn
    · cases hbad : (inc (-1) who && decide (1 ≤ need) && decide (need ≤ who.length) && decide (1 ≤ term) && decide (term ≤ 1000)) with
      | false => exact qruns_bad A B who.length ca acts.length cb who need term w hG hn ⟨C0, rfl, D0⟩ hbad
      | true =>
        simp only [Bool.and_eq_true, decide_eq_true_eq] at hbad
        obtain ⟨⟨⟨⟨h1, h2⟩, h3⟩, h4⟩, h5⟩ := hbad
        exact qruns_go A B who.length ca acts.length cb who _ _ need term w hG hn ⟨C0, rfl, D0⟩ hp h1 h2 h3 h4 h5
end Go.Proofs.YtfomajippdcaoaaDoor.Qu
