/-
  What must come whatever the input is: the five answers, worked out.
-/
import Derived.Test.YtbfgppecpkfcnaaDoorPolyFacts2
namespace Go.Proofs.YtbfgppecpkfcnaaDoor.PPoly
open Go.RowKit Go.Proofs.YtbfgppecpkfcnaaDoorW.PrintWords Go.Proofs.YtbfgppecpkfcnaaDoorW.PrintLast Go.Proofs.YtbfgppecpkfcnaaDoorW.PrintMore Go.Proofs.YtbfgppecpkfcnaaDoor.PFp Go.Proofs.YtbfgppecpkfcnaaDoor.Fq
theorem s_eval : poly_Eval.f 20 [3, 2] 2 = some 7 := by kernel_rfl
theorem s_weights : poly_Weights.f 100 [1, 2] 0 = some ([2, 2305843009213693950], none) := by kernel_rfl
theorem s_through : poly_Through.f 120 [⟨1, 5⟩, ⟨2, 7⟩] 0 = some (3, none) := by kernel_rfl
theorem s_line : poly_Line.f 140 [⟨1, 5⟩, ⟨2, 7⟩, ⟨3, 9⟩] 2 = some (true, none) := by kernel_rfl
theorem s_line2 : poly_Line.f 140 [⟨1, 5⟩, ⟨2, 7⟩, ⟨3, 8⟩] 2 = some (false, none) := by kernel_rfl
theorem s_twice : poly_Through.f 120 [⟨1, 0⟩, ⟨2305843009213693952, 0⟩] 0 = some (0, some 8) := by kernel_rfl
end Go.Proofs.YtbfgppecpkfcnaaDoor.PPoly
