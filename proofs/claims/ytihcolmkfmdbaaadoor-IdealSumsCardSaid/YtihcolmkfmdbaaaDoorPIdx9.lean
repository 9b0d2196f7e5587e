import Derived.Test.YtihcolmkfmdbaaaDoorPIdx0
import Derived.Test.YtihcolmkfmdbaaaDoorPIdx8
-- Written by a changed copy of the kit's print (wip/tools/patch_print.py), out of the translation. Not trusted: Lean checks it.
namespace Go.Proofs.YtihcolmkfmdbaaaDoor.PId
open Go.RowKit Go.Proofs.YtihcolmkfmdbaaaDoorW.PrintWords Go.Proofs.YtihcolmkfmdbaaaDoorW.PrintLast Go.Proofs.YtihcolmkfmdbaaaDoorW.PrintMore
attribute [local go_sem] max2_int min2_int max_two min_two max_three min_three max_four min_four   -- for this text's walks alone
set_option linter.unusedVariables false
set_option linter.unusedSimpArgs false

/-! ### caucusref37_fits: function 27 -/
def caucusref37_fits.l0 : Nat → List (List Int) → Int → List (List Int) → List (List (List Int)) → Option (Bool)
  | 0, _, _, _, _ => none
  | k + 1, x1, x5, x364000, x364001 => if x5 < (x1.length : Int) then (if 0 ≤ x5 then ((caucusref37_Dim.f x1).bind fun t365 => (if ((rd_L1 x1 x5).length : Int) = t365 then (caucusref37_fits.l0 k x1 (wrap64 (x5 + 1)) x364000 x364001) else (some false))) else (none)) else ((caucusref37_Dim.f x1).bind fun t366 => ((caucusref37_May.f k x364000 x364001 (x1.length : Int) t366).bind fun t367 => (some t367)))
def caucusref37_fits.f (k : Nat) (l0_0 : List (List Int)) (l0_1 : List (List (List Int))) (l1 : List (List Int)) : Option (Bool) := caucusref37_fits.l0 k l1 0 l0_0 l0_1
theorem caucusref37_fits.mono_l : ∀ k, (∀ y0 y1 y2 y3, LeO (caucusref37_fits.l0 k y0 y1 y2 y3) (caucusref37_fits.l0 (k + 1) y0 y1 y2 y3))
  | 0 => fun _ _ _ _ r h => by simp [caucusref37_fits.l0] at h
  | k + 1 => by
    have ih0 := caucusref37_fits.mono_l k
    · intro y0 y1 y2 y3
      unfold caucusref37_fits.l0
      repeat' first
      | (with_reducible exact ih0 _ _ _ _)
      | (with_reducible exact caucusref37_May.mono _ _ _ _ _)
      | (with_reducible exact LeO.refl _)
      | (with_reducible exact LeO.none _)
      | (with_reducible refine LeO.ite ?_ ?_)
      | (with_reducible refine LeO.bind ?_ (fun _ => ?_))
      | exact ih0 _ _ _ _
      | exact caucusref37_May.mono _ _ _ _ _
      | exact LeO.none _
      | refine LeO.ite ?_ ?_
      | refine LeO.bind ?_ (fun _ => ?_)
theorem caucusref37_fits.mono : ∀ a0 a1 a2 k, LeO (caucusref37_fits.f k a0 a1 a2) (caucusref37_fits.f (k + 1) a0 a1 a2) := by
  intro a0 a1 a2 k
  have ih0 := caucusref37_fits.mono_l k
  unfold caucusref37_fits.f
  repeat' first
      | (with_reducible exact ih0 _ _ _ _)
      | (with_reducible exact caucusref37_May.mono _ _ _ _ _)
      | (with_reducible exact LeO.refl _)
      | (with_reducible exact LeO.none _)
      | (with_reducible refine LeO.ite ?_ ?_)
      | (with_reducible refine LeO.bind ?_ (fun _ => ?_))
      | exact ih0 _ _ _ _
      | exact caucusref37_May.mono _ _ _ _ _
      | exact LeO.none _
      | refine LeO.ite ?_ ?_
      | refine LeO.bind ?_ (fun _ => ?_)
end Go.Proofs.YtihcolmkfmdbaaaDoor.PId
