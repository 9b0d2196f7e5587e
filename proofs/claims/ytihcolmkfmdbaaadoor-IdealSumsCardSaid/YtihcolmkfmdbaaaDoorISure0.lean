/-
  What the law's own table answers.
-/
import Derived.Test.YtihcolmkfmdbaaaDoorILaw0
namespace Go.Proofs.YtihcolmkfmdbaaaDoor.It
open Go.RowKit Go.Proofs.YtihcolmkfmdbaaaDoorW.PrintWords Go.Proofs.YtihcolmkfmdbaaaDoorW.PrintLast Go.Proofs.YtihcolmkfmdbaaaDoorW.PrintMore Go.Proofs.YtihcolmkfmdbaaaDoor.Ip Go.Proofs.YtihcolmkfmdbaaaDoor.Ih Go.Proofs.YtihcolmkfmdbaaaDoor.PId
abbrev O1 : List (List Int) := [[1], [2]]
abbrev P1 : List (List (List Int)) := [[[10]], []]
abbrev L1 : List (List Int) := [[5], [6]]
theorem fit1 : FitP O1 P1 2 1 := ⟨by decide, by decide, by decide, by decide, fun i _ hi => (show ∀ i, i < P1.length → prOk 2 1 P1 i from by unfold prOk; decide) i hi⟩
theorem fits1 : FitsP O1 P1 L1 := ⟨fit1, by decide⟩
theorem fits2 : ¬ FitsP O1 P1 [[5]] := fun h => absurd h.fit.own (by decide)
theorem places1 : PlacesP [1] 2 := ⟨by decide, by decide⟩
theorem places2 : PlacesP [0, 1] 2 := ⟨by decide, by decide⟩
theorem alike1 : AlikeP O1 P1 [0, 1] L1 [[4], [7]] := ⟨fits1, by decide, by decide, places2, fun i _ hi => (show ∀ i, i < L1.length → hs [0, 1] i = true ∨ gr L1 i = gr [[4], [7]] i from by decide) i hi⟩
theorem alike2 : AlikeP O1 P1 [0, 1] L1 [[5], [7]] := ⟨fits1, by decide, by decide, places2, fun i _ hi => (show ∀ i, i < L1.length → hs [0, 1] i = true ∨ gr L1 i = gr [[5], [7]] i from by decide) i hi⟩
theorem hid1 : hid O1 P1 L1 = [[16], [4294967294]] := by decide
theorem moved1 : moved [0, 1] P1 L1 [[4], [7]] 2 = [[[11]], []] := by decide
theorem shown1 : shownO [1] O1 2 1 = [[0], [2]] := by decide
theorem shown2 : shownP [1] P1 2 1 = P1 := by decide
section
variable {w : World} {A B D E' G : Option Addr} {c c' c'' c3 c4 : Nat}
theorem sure_h (hO : Rs w A 2 c O1) (hP : Ps w B 2 c' P1) (hL : Rs w E' 2 c3 L1) : Calls Tryd.prog 10 #[.agg #[.slice A 2 c, .slice B 2 c'], .slice E' 2 c3] w fun e w' => ∃ A c, e = .returned (.tuple #[.slice A 2 c, .nilIface]) ∧ Rs w' A 2 c [[16], [4294967294]] ∧ Below w.heap.size w w' := by
  have h := hidden_ok hO hP hL fits1
  rw [hid1] at h
  exact h
theorem sure_n (hO : Rs w A 2 c O1) (hP : Ps w B 2 c' P1) (hL : Rs w E' 1 c3 [[5]]) : Calls Tryd.prog 10 #[.agg #[.slice A 2 c, .slice B 2 c'], .slice E' 1 c3] w fun e w' => ∃ A c, e = .returned (.tuple #[.slice A 0 c, .iface 63 (.int .i64 1)]) ∧ Rs w' A 0 c [] ∧ Below w.heap.size w w' :=
  hidden_no hO hP hL fits2
theorem sure_m (hO : Rs w A 2 c O1) (hP : Ps w B 2 c' P1) (hC : Ns w D 2 c'' [0, 1]) (hL : Rs w E' 2 c3 L1) (hK : Rs w G 2 c4 [[4], [7]]) : Calls Tryd.prog 14 #[.agg #[.slice A 2 c, .slice B 2 c'], .slice D 2 c'', .slice E' 2 c3, .slice G 2 c4] w fun e w' => ∃ A c B c', e = .returned (.tuple #[.agg #[.slice A 2 c, .slice B 2 c'], .nilIface]) ∧ Rs w' A 2 c O1 ∧ Ps w' B 2 c' [[[11]], []] ∧ Below w.heap.size w w' := by
  have h := moved_ok hO hP hC hL hK (by decide) fits1.plain.1 (by decide) (by decide) fits1.plain.2.1 alike1.krows places2.places.1 (out_ok alike1 rfl (by decide)) (by decide)
  rw [moved1] at h
  exact h
theorem sure_d (hO : Rs w A 2 c O1) (hP : Ps w B 2 c' P1) (hC : Ns w D 2 c'' [0, 1]) (hL : Rs w E' 2 c3 L1) (hK : Rs w G 2 c4 [[5], [7]]) : Calls Tryd.prog 14 #[.agg #[.slice A 2 c, .slice B 2 c'], .slice D 2 c'', .slice E' 2 c3, .slice G 2 c4] w fun e w' => ∃ A c B c', e = .returned (.tuple #[.agg #[.slice A 0 c, .slice B 0 c'], .iface 63 (.int .i64 4)]) ∧ Rs w' A 0 c [] ∧ Ps w' B 0 c' [] ∧ Below w.heap.size w w' :=
  moved_no 4 hO hP hC hL hK (by decide) (out_four alike2 rfl (by decide))
theorem sure_s (hO : Rs w A 2 c O1) (hP : Ps w B 2 c' P1) (hC : Ns w D 1 c'' [1]) : Calls Tryd.prog 12 #[.agg #[.slice A 2 c, .slice B 2 c'], .slice D 1 c'', .int .i64 1] w fun e w' => ∃ A c B c', e = .returned (.tuple #[.agg #[.slice A 2 c, .slice B 2 c'], .nilIface]) ∧ Rs w' A 2 c [[0], [2]] ∧ Ps w' B 2 c' P1 ∧ Below w.heap.size w w' := by
  have h := shown_ok 1 hO hP hC (by decide) fit1 places1
  rw [shown1, shown2] at h
  exact h
theorem cmp_s : Cmp [[16], [4294967294]] := ⟨by decide, by decide⟩
theorem cmp_m : CmpT O1 [[[11]], []] := ⟨⟨by decide, by decide⟩, by decide, by unfold Cmp; decide⟩
theorem cmp_t : CmpT [[0], [2]] P1 := ⟨⟨by decide, by decide⟩, by decide, by unfold Cmp; decide⟩
end
end Go.Proofs.YtihcolmkfmdbaaaDoor.It
