import Derived.Test.YtihcolmkfmdbaaaDoorPIdx0
-- Written by a changed copy of the kit's print (wip/tools/patch_print.py), out of the translation. Not trusted: Lean checks it.
namespace Go.Proofs.YtihcolmkfmdbaaaDoor.PId
open Go.RowKit Go.Proofs.YtihcolmkfmdbaaaDoorW.PrintWords Go.Proofs.YtihcolmkfmdbaaaDoorW.PrintLast Go.Proofs.YtihcolmkfmdbaaaDoorW.PrintMore
attribute [local go_sem] max2_int min2_int max_two min_two max_three min_three max_four min_four   -- for this text's walks alone
set_option linter.unusedVariables false
set_option linter.unusedSimpArgs false

/-! ### caucusref37_May: function 16 -/
mutual
def caucusref37_May.j0 : Nat → Int → Int → Bool → List (List Int) → List (List (List Int)) → Option (Bool)
  | 0, _, _, _, _, _ => none
  | k + 1, x1, x2, x36, x357000, x357001 => if x36 = true then (some false) else (caucusref37_May.l0 k x1 x2 0 x357000 x357001)
def caucusref37_May.l0 : Nat → Int → Int → Int → List (List Int) → List (List (List Int)) → Option (Bool)
  | 0, _, _, _, _, _ => none
  | k + 1, x1, x2, x7, x357000, x357001 => if x7 < x1 then (if 0 ≤ x7 then (if x7 < (x357000.length : Int) then (if ((rd_L1 x357000 x7).length : Int) = x2 then (if x7 < (x357001.length : Int) then (caucusref37_May.j2 k x1 x2 x7 (((rd_L2 x357001 x7).length : Int) != (wrap64 ((wrap64 (x1 - 1)) - x7))) x357000 x357001) else (none)) else (caucusref37_May.j2 k x1 x2 x7 true x357000 x357001)) else (none)) else (none)) else (some true)
def caucusref37_May.j2 : Nat → Int → Int → Int → Bool → List (List Int) → List (List (List Int)) → Option (Bool)
  | 0, _, _, _, _, _, _ => none
  | k + 1, x1, x2, x7, x62, x357000, x357001 => if x62 = true then (some false) else (caucusref37_May.l1 k x1 x2 x7 0 x357000 x357001)
def caucusref37_May.l1 : Nat → Int → Int → Int → Int → List (List Int) → List (List (List Int)) → Option (Bool)
  | 0, _, _, _, _, _, _ => none
  | k + 1, x1, x2, x7, x8, x357000, x357001 => if 0 ≤ x7 then (if x7 < (x357001.length : Int) then (if x8 < ((rd_L2 x357001 x7).length : Int) then (if 0 ≤ x8 then (if ((rd_L1 (rd_L2 x357001 x7) x8).length : Int) = x2 then (caucusref37_May.l1 k x1 x2 x7 (wrap64 (x8 + 1)) x357000 x357001) else (some false)) else (none)) else (caucusref37_May.l0 k x1 x2 (wrap64 (x7 + 1)) x357000 x357001)) else (none)) else (none)
end
def caucusref37_May.f (k : Nat) (l0_0 : List (List Int)) (l0_1 : List (List (List Int))) (a1 : Int) (a2 : Int) : Option (Bool) := if a1 < 0 then (caucusref37_May.j0 k a1 a2 true l0_0 l0_1) else (if a1 > 64 then (caucusref37_May.j0 k a1 a2 true l0_0 l0_1) else (if a2 < 0 then (caucusref37_May.j0 k a1 a2 true l0_0 l0_1) else (if a2 > 32 then (caucusref37_May.j0 k a1 a2 true l0_0 l0_1) else (if (l0_0.length : Int) = a1 then (caucusref37_May.j0 k a1 a2 ((l0_1.length : Int) != a1) l0_0 l0_1) else (caucusref37_May.j0 k a1 a2 true l0_0 l0_1)))))
theorem caucusref37_May.mono_l : ∀ k, (∀ y0 y1 y2 y3 y4, LeO (caucusref37_May.j0 k y0 y1 y2 y3 y4) (caucusref37_May.j0 (k + 1) y0 y1 y2 y3 y4)) ∧ (∀ y0 y1 y2 y3 y4, LeO (caucusref37_May.l0 k y0 y1 y2 y3 y4) (caucusref37_May.l0 (k + 1) y0 y1 y2 y3 y4)) ∧ (∀ y0 y1 y2 y3 y4 y5, LeO (caucusref37_May.j2 k y0 y1 y2 y3 y4 y5) (caucusref37_May.j2 (k + 1) y0 y1 y2 y3 y4 y5)) ∧ (∀ y0 y1 y2 y3 y4 y5, LeO (caucusref37_May.l1 k y0 y1 y2 y3 y4 y5) (caucusref37_May.l1 (k + 1) y0 y1 y2 y3 y4 y5))
  | 0 => ⟨fun _ _ _ _ _ r h => by simp [caucusref37_May.j0] at h, fun _ _ _ _ _ r h => by simp [caucusref37_May.l0] at h, fun _ _ _ _ _ _ r h => by simp [caucusref37_May.j2] at h, fun _ _ _ _ _ _ r h => by simp [caucusref37_May.l1] at h⟩
  | k + 1 => by
    obtain ⟨ih0, ih1, ih2, ih3⟩ := caucusref37_May.mono_l k
    refine ⟨?_, ?_, ?_, ?_⟩
    · intro y0 y1 y2 y3 y4
      unfold caucusref37_May.j0
      repeat' first
      | (with_reducible exact ih0 _ _ _ _ _)
      | (with_reducible exact ih1 _ _ _ _ _)
      | (with_reducible exact ih2 _ _ _ _ _ _)
      | (with_reducible exact ih3 _ _ _ _ _ _)
      | (with_reducible exact LeO.refl _)
      | (with_reducible exact LeO.none _)
      | (with_reducible refine LeO.ite ?_ ?_)
      | (with_reducible refine LeO.bind ?_ (fun _ => ?_))
      | exact ih0 _ _ _ _ _
      | exact ih1 _ _ _ _ _
      | exact ih2 _ _ _ _ _ _
      | exact ih3 _ _ _ _ _ _
      | exact LeO.none _
      | refine LeO.ite ?_ ?_
      | refine LeO.bind ?_ (fun _ => ?_)
    · intro y0 y1 y2 y3 y4
      unfold caucusref37_May.l0
      repeat' first
      | (with_reducible exact ih0 _ _ _ _ _)
      | (with_reducible exact ih1 _ _ _ _ _)
      | (with_reducible exact ih2 _ _ _ _ _ _)
      | (with_reducible exact ih3 _ _ _ _ _ _)
      | (with_reducible exact LeO.refl _)
      | (with_reducible exact LeO.none _)
      | (with_reducible refine LeO.ite ?_ ?_)
      | (with_reducible refine LeO.bind ?_ (fun _ => ?_))
      | exact ih0 _ _ _ _ _
      | exact ih1 _ _ _ _ _
      | exact ih2 _ _ _ _ _ _
      | exact ih3 _ _ _ _ _ _
      | exact LeO.none _
      | refine LeO.ite ?_ ?_
      | refine LeO.bind ?_ (fun _ => ?_)
    · intro y0 y1 y2 y3 y4 y5
      unfold caucusref37_May.j2
      repeat' first
      | (with_reducible exact ih0 _ _ _ _ _)
      | (with_reducible exact ih1 _ _ _ _ _)
      | (with_reducible exact ih2 _ _ _ _ _ _)
      | (with_reducible exact ih3 _ _ _ _ _ _)
      | (with_reducible exact LeO.refl _)
      | (with_reducible exact LeO.none _)
      | (with_reducible refine LeO.ite ?_ ?_)
      | (with_reducible refine LeO.bind ?_ (fun _ => ?_))
      | exact ih0 _ _ _ _ _
      | exact ih1 _ _ _ _ _
      | exact ih2 _ _ _ _ _ _
      | exact ih3 _ _ _ _ _ _
      | exact LeO.none _
      | refine LeO.ite ?_ ?_
      | refine LeO.bind ?_ (fun _ => ?_)
    · intro y0 y1 y2 y3 y4 y5
      unfold caucusref37_May.l1
      repeat' first
      | (with_reducible exact ih0 _ _ _ _ _)
      | (with_reducible exact ih1 _ _ _ _ _)
      | (with_reducible exact ih2 _ _ _ _ _ _)
      | (with_reducible exact ih3 _ _ _ _ _ _)
      | (with_reducible exact LeO.refl _)
      | (with_reducible exact LeO.none _)
      | (with_reducible refine LeO.ite ?_ ?_)
      | (with_reducible refine LeO.bind ?_ (fun _ => ?_))
      | exact ih0 _ _ _ _ _
      | exact ih1 _ _ _ _ _
      | exact ih2 _ _ _ _ _ _
      | exact ih3 _ _ _ _ _ _
      | exact LeO.none _
      | refine LeO.ite ?_ ?_
      | refine LeO.bind ?_ (fun _ => ?_)
theorem caucusref37_May.mono : ∀ a0 a1 a2 a3 k, LeO (caucusref37_May.f k a0 a1 a2 a3) (caucusref37_May.f (k + 1) a0 a1 a2 a3) := by
  intro a0 a1 a2 a3 k
  obtain ⟨ih0, ih1, ih2, ih3⟩ := caucusref37_May.mono_l k
  unfold caucusref37_May.f
  repeat' first
      | (with_reducible exact ih0 _ _ _ _ _)
      | (with_reducible exact ih1 _ _ _ _ _)
      | (with_reducible exact ih2 _ _ _ _ _ _)
      | (with_reducible exact ih3 _ _ _ _ _ _)
      | (with_reducible exact LeO.refl _)
      | (with_reducible exact LeO.none _)
      | (with_reducible refine LeO.ite ?_ ?_)
      | (with_reducible refine LeO.bind ?_ (fun _ => ?_))
      | exact ih0 _ _ _ _ _
      | exact ih1 _ _ _ _ _
      | exact ih2 _ _ _ _ _ _
      | exact ih3 _ _ _ _ _ _
      | exact LeO.none _
      | refine LeO.ite ?_ ?_
      | refine LeO.bind ?_ (fun _ => ?_)
/-! ### caucusref37_Dim: function 20 -/
def caucusref37_Dim.f (l0 : List (List Int)) : Option (Int) := if (l0.length : Int) = 0 then (some 0) else (if 0 < (l0.length : Int) then (some ((rd_L1 l0 0).length : Int)) else (none))
set_option maxHeartbeats 8000000 in
set_option maxRecDepth 100000 in
theorem caucusref37_Dim.calls (A0 : Option Addr) (c0 : Nat) (l0 : List (List Int)) (r : Int) (w : World) (hr0 : Kd.C (Kd.slice 61 (Kd.int .u32)) w A0 l0.length l0) (hc0 : l0.length ≤ c0) (h : caucusref37_Dim.f l0 = some r) :
    Calls Tryd.prog 20 #[.slice A0 l0.length c0] w fun e w' => e = .returned (.int .i64 r) ∧ Drawn0 w w' := by
  have HR0 := Aside0.mk hr0
  have HC0 := Aside0.mk hc0
  clear hr0 hc0
  have H : (if (l0.length : Int) = 0 then (some 0) else (if 0 < (l0.length : Int) then (some ((rd_L1 l0 0).length : Int)) else (none))) = some r := h
  clear h
  by_cases c2 : (l0.length : Int) = 0
  · rw [if_pos c2] at H
    have c2b0 : ((l0.length : Int) == 0) = true := beq_iff_eq.mpr c2
    have c2b1 : ((l0.length : Int) != 0) = false := bne_eq_false_iff_eq.mpr c2
    clear c2
    obtain rfl := Option.some.inj H
    go_enter Tryd.func20, Tryd.ntmps20
    go_wp2
    go_ret
    exact ⟨by first | rfl | (simp; done) | (simp [*]; done), by repeat (first | exact Drawn0.refl _ | apply Drawn0.step)⟩
  · rw [if_neg c2] at H
    have c2b0 : ((l0.length : Int) == 0) = false := beq_eq_false_iff_ne.mpr c2
    have c2b1 : ((l0.length : Int) != 0) = true := bne_iff_ne.mpr c2
    have c2b2 : ¬ (l0 = []) := fun h_ => c2 (by rw [h_]; rfl)
    by_cases c3 : 0 < (l0.length : Int)
    · rw [if_pos c3] at H
      have c3b0 : decide (0 < (l0.length : Int)) = true := decide_eq_true c3
      have c3b1 : decide (0 < l0.length) = true := decide_eq_true (by omega)
      clear c3
      obtain rfl := Option.some.inj H
      have p362 : 0 ≤ (0 : Int) := (by omega)
      have q362 : 0 < (l0.length : Int) := of_decide_eq_true (by first | (with_reducible assumption) | assumption)
      obtain ⟨ad362, A362_0, c362_0, e362, hx362_0, hl362_0, hi362_0⟩ := at_L1 HR0.out 0 p362 q362
      cases e362
      have qi362 : (0 < l0.length) = True := eq_true (by omega)
      (try rw [show ((0 : Int)).toNat = 0 from rfl] at hx362_0)
      (try rw [Addr.add_zero'] at hx362_0)
      have HR362_0 := Aside0.mk hi362_0
      have HC362_0 := Aside0.mk hl362_0
      clear hi362_0 hl362_0
      replace p362 := eq_true p362
      replace q362 := eq_true q362
      go_enter Tryd.func20, Tryd.ntmps20
      go_wp2
      go_ret
      exact ⟨by first | rfl | (simp; done) | (simp [*]; done), by repeat (first | exact Drawn0.refl _ | apply Drawn0.step)⟩
    · rw [if_neg c3] at H
      exact absurd H (by simp)

end Go.Proofs.YtihcolmkfmdbaaaDoor.PId
