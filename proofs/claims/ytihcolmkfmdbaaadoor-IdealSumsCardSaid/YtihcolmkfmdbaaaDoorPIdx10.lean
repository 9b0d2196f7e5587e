import Derived.Test.YtihcolmkfmdbaaaDoorPIdx0
import Derived.Test.YtihcolmkfmdbaaaDoorPIdx7
import Derived.Test.YtihcolmkfmdbaaaDoorPIdx9
-- Written by a changed copy of the kit's print (wip/tools/patch_print.py), out of the translation. Not trusted: Lean checks it.
namespace Go.Proofs.YtihcolmkfmdbaaaDoor.PId
open Go.RowKit Go.Proofs.YtihcolmkfmdbaaaDoorW.PrintWords Go.Proofs.YtihcolmkfmdbaaaDoorW.PrintLast Go.Proofs.YtihcolmkfmdbaaaDoorW.PrintMore
attribute [local go_sem] max2_int min2_int max_two min_two max_three min_three max_four min_four   -- for this text's walks alone
set_option linter.unusedVariables false
set_option linter.unusedSimpArgs false

/-! ### caucusref37_Hidden: function 11 -/
mutual
def caucusref37_Hidden.l0 : Nat → List (List Int) → List (List Int) → Int → List (List Int) → List (List (List Int)) → Option ((List (List Int)) × Int)
  | 0, _, _, _, _, _ => none
  | k + 1, x1, x6, x7, x369000, x369001 => if x7 < (x1.length : Int) then (if 0 ≤ x7 then (if x7 < (x369000.length : Int) then ((caucusref02_Add.f k (rd_L1 x1 x7) (rd_L1 x369000 x7) 1).bind fun bt372 => (caucusref37_Hidden.l1 k x1 x6 x7 bt372.1 0 x369000 x369001)) else (none)) else (none)) else (some (x6, 0))
def caucusref37_Hidden.l1 : Nat → List (List Int) → List (List Int) → Int → List Int → Int → List (List Int) → List (List (List Int)) → Option ((List (List Int)) × Int)
  | 0, _, _, _, _, _, _, _ => none
  | k + 1, x1, x6, x7, x8, x10, x369000, x369001 => if x10 < (x1.length : Int) then (caucusref37_Hidden.l2 k x1 x6 x7 x8 x10 (wrap64 (x10 + 1)) x369000 x369001) else (if x6.length < 5864062014805 then (caucusref37_Hidden.l0 k x1 (x6 ++ [x8]) (wrap64 (x7 + 1)) x369000 x369001) else (none))
def caucusref37_Hidden.l2 : Nat → List (List Int) → List (List Int) → Int → List Int → Int → Int → List (List Int) → List (List (List Int)) → Option ((List (List Int)) × Int)
  | 0, _, _, _, _, _, _, _, _ => none
  | k + 1, x1, x6, x7, x8, x10, x11, x369000, x369001 => if x11 < (x1.length : Int) then (if x10 = x7 then (if 0 ≤ x10 then (if x10 < (x369001.length : Int) then (if 0 ≤ (wrap64 ((wrap64 (x11 - x10)) - 1)) then (if (wrap64 ((wrap64 (x11 - x10)) - 1)) < ((rd_L2 x369001 x10).length : Int) then ((caucusref02_Add.f k x8 (rd_L1 (rd_L2 x369001 x10) (wrap64 ((wrap64 (x11 - x10)) - 1))) 1).bind fun bt381 => (if x11 = x7 then ((caucusref02_Add.f k bt381.1 (rd_L1 (rd_L2 x369001 x10) (wrap64 ((wrap64 (x11 - x10)) - 1))) 4294967295).bind fun bt387 => (caucusref37_Hidden.l2 k x1 x6 x7 bt387.1 x10 (wrap64 (x11 + 1)) x369000 x369001)) else (caucusref37_Hidden.l2 k x1 x6 x7 bt381.1 x10 (wrap64 (x11 + 1)) x369000 x369001))) else (none)) else (none)) else (none)) else (none)) else (if x11 = x7 then (if 0 ≤ x10 then (if x10 < (x369001.length : Int) then (if 0 ≤ (wrap64 ((wrap64 (x11 - x10)) - 1)) then (if (wrap64 ((wrap64 (x11 - x10)) - 1)) < ((rd_L2 x369001 x10).length : Int) then ((caucusref02_Add.f k x8 (rd_L1 (rd_L2 x369001 x10) (wrap64 ((wrap64 (x11 - x10)) - 1))) 4294967295).bind fun bt393 => (caucusref37_Hidden.l2 k x1 x6 x7 bt393.1 x10 (wrap64 (x11 + 1)) x369000 x369001)) else (none)) else (none)) else (none)) else (none)) else (caucusref37_Hidden.l2 k x1 x6 x7 x8 x10 (wrap64 (x11 + 1)) x369000 x369001))) else (caucusref37_Hidden.l1 k x1 x6 x7 x8 (wrap64 (x10 + 1)) x369000 x369001)
end
def caucusref37_Hidden.f (k : Nat) (l0_0 : List (List Int)) (l0_1 : List (List (List Int))) (l1 : List (List Int)) : Option ((List (List Int)) × Int) := (caucusref37_fits.f k l0_0 l0_1 l1).bind fun t369 => (if t369 = true then (caucusref37_Hidden.l0 k l1 ([] : List (List Int)) 0 l0_0 l0_1) else (some (([] : List (List Int)), 1)))
theorem caucusref37_Hidden.mono_l : ∀ k, (∀ y0 y1 y2 y3 y4, LeO (caucusref37_Hidden.l0 k y0 y1 y2 y3 y4) (caucusref37_Hidden.l0 (k + 1) y0 y1 y2 y3 y4)) ∧ (∀ y0 y1 y2 y3 y4 y5 y6, LeO (caucusref37_Hidden.l1 k y0 y1 y2 y3 y4 y5 y6) (caucusref37_Hidden.l1 (k + 1) y0 y1 y2 y3 y4 y5 y6)) ∧ (∀ y0 y1 y2 y3 y4 y5 y6 y7, LeO (caucusref37_Hidden.l2 k y0 y1 y2 y3 y4 y5 y6 y7) (caucusref37_Hidden.l2 (k + 1) y0 y1 y2 y3 y4 y5 y6 y7))
  | 0 => ⟨fun _ _ _ _ _ r h => by simp [caucusref37_Hidden.l0] at h, fun _ _ _ _ _ _ _ r h => by simp [caucusref37_Hidden.l1] at h, fun _ _ _ _ _ _ _ _ r h => by simp [caucusref37_Hidden.l2] at h⟩
  | k + 1 => by
    obtain ⟨ih0, ih1, ih2⟩ := caucusref37_Hidden.mono_l k
    refine ⟨?_, ?_, ?_⟩
    · intro y0 y1 y2 y3 y4
      unfold caucusref37_Hidden.l0
      repeat' first
      | (with_reducible exact ih0 _ _ _ _ _)
      | (with_reducible exact ih1 _ _ _ _ _ _ _)
      | (with_reducible exact ih2 _ _ _ _ _ _ _ _)
      | (with_reducible exact caucusref02_Add.mono _ _ _ _)
      | (with_reducible exact caucusref37_fits.mono _ _ _ _)
      | (with_reducible exact LeO.refl _)
      | (with_reducible exact LeO.none _)
      | (with_reducible refine LeO.ite ?_ ?_)
      | (with_reducible refine LeO.bind ?_ (fun _ => ?_))
      | exact ih0 _ _ _ _ _
      | exact ih1 _ _ _ _ _ _ _
      | exact ih2 _ _ _ _ _ _ _ _
      | exact caucusref02_Add.mono _ _ _ _
      | exact caucusref37_fits.mono _ _ _ _
      | exact LeO.none _
      | refine LeO.ite ?_ ?_
      | refine LeO.bind ?_ (fun _ => ?_)
    · intro y0 y1 y2 y3 y4 y5 y6
      unfold caucusref37_Hidden.l1
      repeat' first
      | (with_reducible exact ih0 _ _ _ _ _)
      | (with_reducible exact ih1 _ _ _ _ _ _ _)
      | (with_reducible exact ih2 _ _ _ _ _ _ _ _)
      | (with_reducible exact caucusref02_Add.mono _ _ _ _)
      | (with_reducible exact caucusref37_fits.mono _ _ _ _)
      | (with_reducible exact LeO.refl _)
      | (with_reducible exact LeO.none _)
      | (with_reducible refine LeO.ite ?_ ?_)
      | (with_reducible refine LeO.bind ?_ (fun _ => ?_))
      | exact ih0 _ _ _ _ _
      | exact ih1 _ _ _ _ _ _ _
      | exact ih2 _ _ _ _ _ _ _ _
      | exact caucusref02_Add.mono _ _ _ _
      | exact caucusref37_fits.mono _ _ _ _
      | exact LeO.none _
      | refine LeO.ite ?_ ?_
      | refine LeO.bind ?_ (fun _ => ?_)
    · intro y0 y1 y2 y3 y4 y5 y6 y7
      unfold caucusref37_Hidden.l2
      repeat' first
      | (with_reducible exact ih0 _ _ _ _ _)
      | (with_reducible exact ih1 _ _ _ _ _ _ _)
      | (with_reducible exact ih2 _ _ _ _ _ _ _ _)
      | (with_reducible exact caucusref02_Add.mono _ _ _ _)
      | (with_reducible exact caucusref37_fits.mono _ _ _ _)
      | (with_reducible exact LeO.refl _)
      | (with_reducible exact LeO.none _)
      | (with_reducible refine LeO.ite ?_ ?_)
      | (with_reducible refine LeO.bind ?_ (fun _ => ?_))
      | exact ih0 _ _ _ _ _
      | exact ih1 _ _ _ _ _ _ _
      | exact ih2 _ _ _ _ _ _ _ _
      | exact caucusref02_Add.mono _ _ _ _
      | exact caucusref37_fits.mono _ _ _ _
      | exact LeO.none _
      | refine LeO.ite ?_ ?_
      | refine LeO.bind ?_ (fun _ => ?_)
theorem caucusref37_Hidden.mono : ∀ a0 a1 a2 k, LeO (caucusref37_Hidden.f k a0 a1 a2) (caucusref37_Hidden.f (k + 1) a0 a1 a2) := by
  intro a0 a1 a2 k
  obtain ⟨ih0, ih1, ih2⟩ := caucusref37_Hidden.mono_l k
  unfold caucusref37_Hidden.f
  repeat' first
      | (with_reducible exact ih0 _ _ _ _ _)
      | (with_reducible exact ih1 _ _ _ _ _ _ _)
      | (with_reducible exact ih2 _ _ _ _ _ _ _ _)
      | (with_reducible exact caucusref02_Add.mono _ _ _ _)
      | (with_reducible exact caucusref37_fits.mono _ _ _ _)
      | (with_reducible exact LeO.refl _)
      | (with_reducible exact LeO.none _)
      | (with_reducible refine LeO.ite ?_ ?_)
      | (with_reducible refine LeO.bind ?_ (fun _ => ?_))
      | exact ih0 _ _ _ _ _
      | exact ih1 _ _ _ _ _ _ _
      | exact ih2 _ _ _ _ _ _ _ _
      | exact caucusref02_Add.mono _ _ _ _
      | exact caucusref37_fits.mono _ _ _ _
      | exact LeO.none _
      | refine LeO.ite ?_ ?_
      | refine LeO.bind ?_ (fun _ => ?_)
def caucusref37_Hidden.T7 : Bool × List (List Nat × List Nat) := (true, [([], []), ([], []), ([0, 1], [0, 1]), ([2], [2]), ([], []), ([4], [4]), ([], []), ([5, 6], [5, 6]), ([7], [7]), ([3, 8], [3, 8]), ([9], [9]), ([10], [10]), ([10], [10]), ([11, 9, 0, 1, 2, 3, 4, 5, 6, 7, 8, 9, 10, 11], [11]), ([12, 13, 0, 1, 2, 3, 4, 5, 6, 7, 8, 9, 10, 11, 12, 13], [12])])
def caucusref37_Hidden.B7 : List Nat := [0, 0, 3, 7, 0, 16, 0, 112, 240, 511, 1023, 2047, 2047, 4095, 16383]
theorem caucusref37_Hidden.tab7 : rtab .any (opsOf Tryd.f11 7) = caucusref37_Hidden.T7 := by kernel_rfl
theorem caucusref37_Hidden.bits7 : waitsOk caucusref37_Hidden.T7.2 caucusref37_Hidden.B7 = true := by kernel_rfl
end Go.Proofs.YtihcolmkfmdbaaaDoor.PId
