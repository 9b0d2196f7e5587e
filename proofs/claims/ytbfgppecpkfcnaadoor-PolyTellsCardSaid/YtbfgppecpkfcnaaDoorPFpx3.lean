-- Written by a changed copy of the kit's print (wip/tools/patch_print.py), out of the translation. Not trusted: Lean checks it.
import Derived.Test.YtbfgppecpkfcnaaDoorPFpx0
import Derived.Test.YtbfgppecpkfcnaaDoorPFpx1
import Derived.Test.YtbfgppecpkfcnaaDoorPFpx2
namespace Go.Proofs.YtbfgppecpkfcnaaDoor.PFp
open Go.RowKit Go.Proofs.YtbfgppecpkfcnaaDoorW.PrintWords Go.Proofs.YtbfgppecpkfcnaaDoorW.PrintLast Go.Proofs.YtbfgppecpkfcnaaDoorW.PrintMore
attribute [local go_sem] max2_int min2_int max_two min_two max_three min_three max_four min_four   -- for this text's walks alone
set_option linter.unusedVariables false
set_option linter.unusedSimpArgs false

/-! ### caucuslaw01_FpTells: function 3 -/
mutual
def caucuslaw01_FpTells.j0 : Nat → Int → Int → Int → Option Int → Int → Option Int → Bool → Option (Bool)
  | 0, _, _, _, _, _, _, _ => none
  | k + 1, x0, x1, x5, x6, x7, x8, x60 => if x60 = true then (some false) else ((caucusref01_Inv.f k x0).bind fun t159 => (if x5 = t159 then (if x6.isNone = true then (if (true != (decide ((Int.tmod x0 2305843009213693951) > 0))) = true then (caucuslaw01_FpTells.j1 k x0 x1 x7 x8 true) else (caucuslaw01_FpTells.j1 k x0 x1 x7 x8 false)) else (if (false != (decide ((Int.tmod x0 2305843009213693951) > 0))) = true then (caucuslaw01_FpTells.j1 k x0 x1 x7 x8 true) else ((caucuslaw01_num.f (some (x6.getD 0))).bind fun t161 => (caucuslaw01_FpTells.j1 k x0 x1 x7 x8 (t161 != 1))))) else (caucuslaw01_FpTells.j1 k x0 x1 x7 x8 true)))
def caucuslaw01_FpTells.j1 : Nat → Int → Int → Int → Option Int → Bool → Option (Bool)
  | 0, _, _, _, _, _ => none
  | k + 1, x0, x1, x7, x8, x81 => if x81 = true then (some false) else (if (Int.tmod x1 2305843009213693951) = 0 then (if x7 = 0 then ((caucuslaw01_num.f x8).bind fun t162 => (if t162 = 1 then ((caucuslaw01_sure.f k).bind fun t163 => (some t163)) else (some false))) else (some false)) else (if x8.isNone = true then ((caucusref01_Inv.f k x1).bind fun t165 => ((caucusref01_Mul.f k x0 t165).bind fun t166 => (if x7 = t166 then ((caucuslaw01_sure.f k).bind fun t167 => (some t167)) else (some false)))) else (some false)))
end
def caucuslaw01_FpTells.f (k : Nat) (a0 : Int) (a1 : Int) : Option (Bool) := (fp_Inv.f k a0).bind fun bt146 => ((fp_Div.f k a0 a1).bind fun bt148 => ((fp_Of.f a0).bind fun t150 => (if t150 = (Int.tmod a0 2305843009213693951) then ((fp_Add.f a0 a1).bind fun t151 => ((caucusref01_Add.f a0 a1).bind fun t152 => (if t151 = t152 then ((fp_Sub.f a0 a1).bind fun t153 => ((caucusref01_Sub.f a0 a1).bind fun t154 => (if t153 = t154 then ((fp_Mul.f a0 a1).bind fun t155 => ((caucusref01_Mul.f k a0 a1).bind fun t156 => (if t155 = t156 then ((fp_Pow.f k a0 a1).bind fun t157 => ((caucusref01_Pow.f k a0 a1).bind fun t158 => (caucuslaw01_FpTells.j0 k a0 a1 bt146.1 bt146.2 bt148.1 bt148.2 (t157 != t158)))) else (caucuslaw01_FpTells.j0 k a0 a1 bt146.1 bt146.2 bt148.1 bt148.2 true)))) else (caucuslaw01_FpTells.j0 k a0 a1 bt146.1 bt146.2 bt148.1 bt148.2 true)))) else (caucuslaw01_FpTells.j0 k a0 a1 bt146.1 bt146.2 bt148.1 bt148.2 true)))) else (caucuslaw01_FpTells.j0 k a0 a1 bt146.1 bt146.2 bt148.1 bt148.2 true))))
theorem caucuslaw01_FpTells.mono_l : ∀ k, (∀ y0 y1 y2 y3 y4 y5 y6, LeO (caucuslaw01_FpTells.j0 k y0 y1 y2 y3 y4 y5 y6) (caucuslaw01_FpTells.j0 (k + 1) y0 y1 y2 y3 y4 y5 y6)) ∧ (∀ y0 y1 y2 y3 y4, LeO (caucuslaw01_FpTells.j1 k y0 y1 y2 y3 y4) (caucuslaw01_FpTells.j1 (k + 1) y0 y1 y2 y3 y4))
  | 0 => ⟨fun _ _ _ _ _ _ _ r h => by simp [caucuslaw01_FpTells.j0] at h, fun _ _ _ _ _ r h => by simp [caucuslaw01_FpTells.j1] at h⟩
  | k + 1 => by
    obtain ⟨ih0, ih1⟩ := caucuslaw01_FpTells.mono_l k
    refine ⟨?_, ?_⟩
    · intro y0 y1 y2 y3 y4 y5 y6
      unfold caucuslaw01_FpTells.j0
      repeat' first
      | (with_reducible exact ih0 _ _ _ _ _ _ _)
      | (with_reducible exact ih1 _ _ _ _ _)
      | (with_reducible exact caucuslaw01_sure.mono _)
      | (with_reducible exact caucusref01_Inv.mono _ _)
      | (with_reducible exact caucusref01_Mul.mono _ _ _)
      | (with_reducible exact caucusref01_Pow.mono _ _ _)
      | (with_reducible exact fp_Div.mono _ _ _)
      | (with_reducible exact fp_Inv.mono _ _)
      | (with_reducible exact fp_Pow.mono _ _ _)
      | (with_reducible exact LeO.refl _)
      | (with_reducible exact LeO.none _)
      | (with_reducible refine LeO.ite ?_ ?_)
      | (with_reducible refine LeO.bind ?_ (fun _ => ?_))
      | exact ih0 _ _ _ _ _ _ _
      | exact ih1 _ _ _ _ _
      | exact caucuslaw01_sure.mono _
      | exact caucusref01_Inv.mono _ _
      | exact caucusref01_Mul.mono _ _ _
      | exact caucusref01_Pow.mono _ _ _
      | exact fp_Div.mono _ _ _
      | exact fp_Inv.mono _ _
      | exact fp_Pow.mono _ _ _
      | exact LeO.none _
      | refine LeO.ite ?_ ?_
      | refine LeO.bind ?_ (fun _ => ?_)
    · intro y0 y1 y2 y3 y4
      unfold caucuslaw01_FpTells.j1
      repeat' first
      | (with_reducible exact ih0 _ _ _ _ _ _ _)
      | (with_reducible exact ih1 _ _ _ _ _)
      | (with_reducible exact caucuslaw01_sure.mono _)
      | (with_reducible exact caucusref01_Inv.mono _ _)
      | (with_reducible exact caucusref01_Mul.mono _ _ _)
      | (with_reducible exact caucusref01_Pow.mono _ _ _)
      | (with_reducible exact fp_Div.mono _ _ _)
      | (with_reducible exact fp_Inv.mono _ _)
      | (with_reducible exact fp_Pow.mono _ _ _)
      | (with_reducible exact LeO.refl _)
      | (with_reducible exact LeO.none _)
      | (with_reducible refine LeO.ite ?_ ?_)
      | (with_reducible refine LeO.bind ?_ (fun _ => ?_))
      | exact ih0 _ _ _ _ _ _ _
      | exact ih1 _ _ _ _ _
      | exact caucuslaw01_sure.mono _
      | exact caucusref01_Inv.mono _ _
      | exact caucusref01_Mul.mono _ _ _
      | exact caucusref01_Pow.mono _ _ _
      | exact fp_Div.mono _ _ _
      | exact fp_Inv.mono _ _
      | exact fp_Pow.mono _ _ _
      | exact LeO.none _
      | refine LeO.ite ?_ ?_
      | refine LeO.bind ?_ (fun _ => ?_)
theorem caucuslaw01_FpTells.mono : ∀ a0 a1 k, LeO (caucuslaw01_FpTells.f k a0 a1) (caucuslaw01_FpTells.f (k + 1) a0 a1) := by
  intro a0 a1 k
  obtain ⟨ih0, ih1⟩ := caucuslaw01_FpTells.mono_l k
  unfold caucuslaw01_FpTells.f
  repeat' first
      | (with_reducible exact ih0 _ _ _ _ _ _ _)
      | (with_reducible exact ih1 _ _ _ _ _)
      | (with_reducible exact caucuslaw01_sure.mono _)
      | (with_reducible exact caucusref01_Inv.mono _ _)
      | (with_reducible exact caucusref01_Mul.mono _ _ _)
      | (with_reducible exact caucusref01_Pow.mono _ _ _)
      | (with_reducible exact fp_Div.mono _ _ _)
      | (with_reducible exact fp_Inv.mono _ _)
      | (with_reducible exact fp_Pow.mono _ _ _)
      | (with_reducible exact LeO.refl _)
      | (with_reducible exact LeO.none _)
      | (with_reducible refine LeO.ite ?_ ?_)
      | (with_reducible refine LeO.bind ?_ (fun _ => ?_))
      | exact ih0 _ _ _ _ _ _ _
      | exact ih1 _ _ _ _ _
      | exact caucuslaw01_sure.mono _
      | exact caucusref01_Inv.mono _ _
      | exact caucusref01_Mul.mono _ _ _
      | exact caucusref01_Pow.mono _ _ _
      | exact fp_Div.mono _ _ _
      | exact fp_Inv.mono _ _
      | exact fp_Pow.mono _ _ _
      | exact LeO.none _
      | refine LeO.ite ?_ ?_
      | refine LeO.bind ?_ (fun _ => ?_)
set_option maxHeartbeats 8000000 in
set_option maxRecDepth 100000 in
theorem caucuslaw01_FpTells.calls (k : Nat) (a0 : Int) (a1 : Int) (r : Bool) (w : World) (hG : As.LaidG w) (h : caucuslaw01_FpTells.f k a0 a1 = some r) :
    Calls Tryd.prog 3 #[.int .u64 a0, .int .u64 a1] w fun e w' => e = .returned (.bool r) ∧ Below w.heap.size w w' := by
  have hu24 := Tryd.underlying24
  have hu96 := Tryd.underlying96
  have HG := Aside0.mk hG
  clear hG
  have HB := Aside0.mk (Below.refl w.heap.size w)
  have H : ((fp_Inv.f k a0).bind fun bt146 => ((fp_Div.f k a0 a1).bind fun bt148 => ((fp_Of.f a0).bind fun t150 => (if t150 = (Int.tmod a0 2305843009213693951) then ((fp_Add.f a0 a1).bind fun t151 => ((caucusref01_Add.f a0 a1).bind fun t152 => (if t151 = t152 then ((fp_Sub.f a0 a1).bind fun t153 => ((caucusref01_Sub.f a0 a1).bind fun t154 => (if t153 = t154 then ((fp_Mul.f a0 a1).bind fun t155 => ((caucusref01_Mul.f k a0 a1).bind fun t156 => (if t155 = t156 then ((fp_Pow.f k a0 a1).bind fun t157 => ((caucusref01_Pow.f k a0 a1).bind fun t158 => (caucuslaw01_FpTells.j0 k a0 a1 bt146.1 bt146.2 bt148.1 bt148.2 (t157 != t158)))) else (caucuslaw01_FpTells.j0 k a0 a1 bt146.1 bt146.2 bt148.1 bt148.2 true)))) else (caucuslaw01_FpTells.j0 k a0 a1 bt146.1 bt146.2 bt148.1 bt148.2 true)))) else (caucuslaw01_FpTells.j0 k a0 a1 bt146.1 bt146.2 bt148.1 bt148.2 true)))) else (caucuslaw01_FpTells.j0 k a0 a1 bt146.1 bt146.2 bt148.1 bt148.2 true))))) = some r := h
  clear h
  replace H := Option.bind_eq_some_iff.mp H
  obtain ⟨⟨t146, t147⟩, A30, H⟩ := H
  replace H : ((fp_Div.f k a0 a1).bind fun bt148 => ((fp_Of.f a0).bind fun t150 => (if t150 = (Int.tmod a0 2305843009213693951) then ((fp_Add.f a0 a1).bind fun t151 => ((caucusref01_Add.f a0 a1).bind fun t152 => (if t151 = t152 then ((fp_Sub.f a0 a1).bind fun t153 => ((caucusref01_Sub.f a0 a1).bind fun t154 => (if t153 = t154 then ((fp_Mul.f a0 a1).bind fun t155 => ((caucusref01_Mul.f k a0 a1).bind fun t156 => (if t155 = t156 then ((fp_Pow.f k a0 a1).bind fun t157 => ((caucusref01_Pow.f k a0 a1).bind fun t158 => (caucuslaw01_FpTells.j0 k a0 a1 t146 t147 bt148.1 bt148.2 (t157 != t158)))) else (caucuslaw01_FpTells.j0 k a0 a1 t146 t147 bt148.1 bt148.2 true)))) else (caucuslaw01_FpTells.j0 k a0 a1 t146 t147 bt148.1 bt148.2 true)))) else (caucuslaw01_FpTells.j0 k a0 a1 t146 t147 bt148.1 bt148.2 true)))) else (caucuslaw01_FpTells.j0 k a0 a1 t146 t147 bt148.1 bt148.2 true)))) = some r := H
  have A3 := Aside0.mk A30
  clear A30
  replace H := Option.bind_eq_some_iff.mp H
  obtain ⟨⟨t148, t149⟩, A40, H⟩ := H
  replace H : ((fp_Of.f a0).bind fun t150 => (if t150 = (Int.tmod a0 2305843009213693951) then ((fp_Add.f a0 a1).bind fun t151 => ((caucusref01_Add.f a0 a1).bind fun t152 => (if t151 = t152 then ((fp_Sub.f a0 a1).bind fun t153 => ((caucusref01_Sub.f a0 a1).bind fun t154 => (if t153 = t154 then ((fp_Mul.f a0 a1).bind fun t155 => ((caucusref01_Mul.f k a0 a1).bind fun t156 => (if t155 = t156 then ((fp_Pow.f k a0 a1).bind fun t157 => ((caucusref01_Pow.f k a0 a1).bind fun t158 => (caucuslaw01_FpTells.j0 k a0 a1 t146 t147 t148 t149 (t157 != t158)))) else (caucuslaw01_FpTells.j0 k a0 a1 t146 t147 t148 t149 true)))) else (caucuslaw01_FpTells.j0 k a0 a1 t146 t147 t148 t149 true)))) else (caucuslaw01_FpTells.j0 k a0 a1 t146 t147 t148 t149 true)))) else (caucuslaw01_FpTells.j0 k a0 a1 t146 t147 t148 t149 true))) = some r := H
  have A4 := Aside0.mk A40
  clear A40
  have HC5 := Aside0.mk H
  clear H
  go_enter Tryd.func3, Tryd.ntmps3
  go_upto_region 3 with (first | ((with_reducible refine gate_callee (f := 15) rfl ?_); refine goesL_ (some 11) rfl rfl Tryd.func15 (by kernel_rfl) rfl #[.int .u64 a0] rfl (by (try simp only [List.map_toArray, List.map_cons, List.map_nil]); first | done | rfl | (simp only [List.length_drop, List.length_take]; rfl)) ?_; (with_reducible refine (fp_Inv.calls k a0 t146 t147 _ A3.out).mono ?_); rintro e w' ⟨rfl, ⟨nd, rfl⟩⟩; refine ⟨_, rfl, ?_⟩; (try simp only [errW_none, errW_some])) | ((with_reducible refine gate_callee (f := 16) rfl ?_); refine goesL_ (some 17) rfl rfl Tryd.func16 (by kernel_rfl) rfl #[.int .u64 a0, .int .u64 a1] rfl (by (try simp only [List.map_toArray, List.map_cons, List.map_nil]); first | done | rfl | (simp only [List.length_drop, List.length_take]; rfl)) ?_; (with_reducible refine (fp_Div.calls k a0 a1 t148 t149 _ A4.out).mono ?_); rintro e w' ⟨rfl, ⟨nd, rfl⟩⟩; refine ⟨_, rfl, ?_⟩; (try simp only [errW_none, errW_some])))
  (try simp only [Act.put, List.setIfInBounds_toArray, List.set_cons_zero, List.set_cons_succ])
  go_cut [60] (fun v60 wc => ∃ (kq : Nat) (x60_4 : Bool), v60 = .bool x60_4 ∧ Aside0 (caucuslaw01_FpTells.j0 kq a0 a1 t146 t147 t148 t149 x60_4 = some r) ∧ Aside0 (kq ≤ k) ∧ Aside0 (Below w.heap.size w wc))
  case first =>
    have H := HC5.out
    clear HC5
    replace H := Option.bind_eq_some_iff.mp H
    obtain ⟨t150, A60, H⟩ := H
    replace H : (if t150 = (Int.tmod a0 2305843009213693951) then ((fp_Add.f a0 a1).bind fun t151 => ((caucusref01_Add.f a0 a1).bind fun t152 => (if t151 = t152 then ((fp_Sub.f a0 a1).bind fun t153 => ((caucusref01_Sub.f a0 a1).bind fun t154 => (if t153 = t154 then ((fp_Mul.f a0 a1).bind fun t155 => ((caucusref01_Mul.f k a0 a1).bind fun t156 => (if t155 = t156 then ((fp_Pow.f k a0 a1).bind fun t157 => ((caucusref01_Pow.f k a0 a1).bind fun t158 => (caucuslaw01_FpTells.j0 k a0 a1 t146 t147 t148 t149 (t157 != t158)))) else (caucuslaw01_FpTells.j0 k a0 a1 t146 t147 t148 t149 true)))) else (caucuslaw01_FpTells.j0 k a0 a1 t146 t147 t148 t149 true)))) else (caucuslaw01_FpTells.j0 k a0 a1 t146 t147 t148 t149 true)))) else (caucuslaw01_FpTells.j0 k a0 a1 t146 t147 t148 t149 true)) = some r := H
    have A6 := Aside0.mk A60
    clear A60
    by_cases c7 : t150 = (Int.tmod a0 2305843009213693951)
    · rw [if_pos c7] at H
      have c7b0 : (t150 == (Int.tmod a0 2305843009213693951)) = true := beq_iff_eq.mpr c7
      have c7b1 : (t150 != (Int.tmod a0 2305843009213693951)) = false := bne_eq_false_iff_eq.mpr c7
      clear c7
      (first | rw [c7b0] | (simp only [i64_w, i32_w]; rw [c7b0]) | skip)
      replace H := Option.bind_eq_some_iff.mp H
      obtain ⟨t151, A80, H⟩ := H
      replace H : ((caucusref01_Add.f a0 a1).bind fun t152 => (if t151 = t152 then ((fp_Sub.f a0 a1).bind fun t153 => ((caucusref01_Sub.f a0 a1).bind fun t154 => (if t153 = t154 then ((fp_Mul.f a0 a1).bind fun t155 => ((caucusref01_Mul.f k a0 a1).bind fun t156 => (if t155 = t156 then ((fp_Pow.f k a0 a1).bind fun t157 => ((caucusref01_Pow.f k a0 a1).bind fun t158 => (caucuslaw01_FpTells.j0 k a0 a1 t146 t147 t148 t149 (t157 != t158)))) else (caucuslaw01_FpTells.j0 k a0 a1 t146 t147 t148 t149 true)))) else (caucuslaw01_FpTells.j0 k a0 a1 t146 t147 t148 t149 true)))) else (caucuslaw01_FpTells.j0 k a0 a1 t146 t147 t148 t149 true))) = some r := H
      have A8 := Aside0.mk A80
      clear A80
      replace H := Option.bind_eq_some_iff.mp H
      obtain ⟨t152, A90, H⟩ := H
      replace H : (if t151 = t152 then ((fp_Sub.f a0 a1).bind fun t153 => ((caucusref01_Sub.f a0 a1).bind fun t154 => (if t153 = t154 then ((fp_Mul.f a0 a1).bind fun t155 => ((caucusref01_Mul.f k a0 a1).bind fun t156 => (if t155 = t156 then ((fp_Pow.f k a0 a1).bind fun t157 => ((caucusref01_Pow.f k a0 a1).bind fun t158 => (caucuslaw01_FpTells.j0 k a0 a1 t146 t147 t148 t149 (t157 != t158)))) else (caucuslaw01_FpTells.j0 k a0 a1 t146 t147 t148 t149 true)))) else (caucuslaw01_FpTells.j0 k a0 a1 t146 t147 t148 t149 true)))) else (caucuslaw01_FpTells.j0 k a0 a1 t146 t147 t148 t149 true)) = some r := H
      have A9 := Aside0.mk A90
      clear A90
      by_cases c10 : t151 = t152
      · rw [if_pos c10] at H
        have c10b0 : (t151 == t152) = true := beq_iff_eq.mpr c10
        have c10b1 : (t151 != t152) = false := bne_eq_false_iff_eq.mpr c10
        clear c10
        replace H := Option.bind_eq_some_iff.mp H
        obtain ⟨t153, A110, H⟩ := H
        replace H : ((caucusref01_Sub.f a0 a1).bind fun t154 => (if t153 = t154 then ((fp_Mul.f a0 a1).bind fun t155 => ((caucusref01_Mul.f k a0 a1).bind fun t156 => (if t155 = t156 then ((fp_Pow.f k a0 a1).bind fun t157 => ((caucusref01_Pow.f k a0 a1).bind fun t158 => (caucuslaw01_FpTells.j0 k a0 a1 t146 t147 t148 t149 (t157 != t158)))) else (caucuslaw01_FpTells.j0 k a0 a1 t146 t147 t148 t149 true)))) else (caucuslaw01_FpTells.j0 k a0 a1 t146 t147 t148 t149 true))) = some r := H
        have A11 := Aside0.mk A110
        clear A110
        replace H := Option.bind_eq_some_iff.mp H
        obtain ⟨t154, A120, H⟩ := H
        replace H : (if t153 = t154 then ((fp_Mul.f a0 a1).bind fun t155 => ((caucusref01_Mul.f k a0 a1).bind fun t156 => (if t155 = t156 then ((fp_Pow.f k a0 a1).bind fun t157 => ((caucusref01_Pow.f k a0 a1).bind fun t158 => (caucuslaw01_FpTells.j0 k a0 a1 t146 t147 t148 t149 (t157 != t158)))) else (caucuslaw01_FpTells.j0 k a0 a1 t146 t147 t148 t149 true)))) else (caucuslaw01_FpTells.j0 k a0 a1 t146 t147 t148 t149 true)) = some r := H
        have A12 := Aside0.mk A120
        clear A120
        by_cases c13 : t153 = t154
        · rw [if_pos c13] at H
          have c13b0 : (t153 == t154) = true := beq_iff_eq.mpr c13
          have c13b1 : (t153 != t154) = false := bne_eq_false_iff_eq.mpr c13
          clear c13
          replace H := Option.bind_eq_some_iff.mp H
          obtain ⟨t155, A140, H⟩ := H
          replace H : ((caucusref01_Mul.f k a0 a1).bind fun t156 => (if t155 = t156 then ((fp_Pow.f k a0 a1).bind fun t157 => ((caucusref01_Pow.f k a0 a1).bind fun t158 => (caucuslaw01_FpTells.j0 k a0 a1 t146 t147 t148 t149 (t157 != t158)))) else (caucuslaw01_FpTells.j0 k a0 a1 t146 t147 t148 t149 true))) = some r := H
          have A14 := Aside0.mk A140
          clear A140
          replace H := Option.bind_eq_some_iff.mp H
          obtain ⟨t156, A150, H⟩ := H
          replace H : (if t155 = t156 then ((fp_Pow.f k a0 a1).bind fun t157 => ((caucusref01_Pow.f k a0 a1).bind fun t158 => (caucuslaw01_FpTells.j0 k a0 a1 t146 t147 t148 t149 (t157 != t158)))) else (caucuslaw01_FpTells.j0 k a0 a1 t146 t147 t148 t149 true)) = some r := H
          have A15 := Aside0.mk A150
          clear A150
          by_cases c16 : t155 = t156
          · rw [if_pos c16] at H
            have c16b0 : (t155 == t156) = true := beq_iff_eq.mpr c16
            have c16b1 : (t155 != t156) = false := bne_eq_false_iff_eq.mpr c16
            clear c16
            replace H := Option.bind_eq_some_iff.mp H
            obtain ⟨t157, A170, H⟩ := H
            replace H : ((caucusref01_Pow.f k a0 a1).bind fun t158 => (caucuslaw01_FpTells.j0 k a0 a1 t146 t147 t148 t149 (t157 != t158))) = some r := H
            have A17 := Aside0.mk A170
            clear A170
            replace H := Option.bind_eq_some_iff.mp H
            obtain ⟨t158, A180, H⟩ := H
            replace H : (caucuslaw01_FpTells.j0 k a0 a1 t146 t147 t148 t149 (t157 != t158)) = some r := H
            have A18 := Aside0.mk A180
            clear A180
            have H' := Aside0.mk H
            clear H
            go_wp2_with (first | ((with_reducible refine gate_callee (f := 17) rfl ?_); refine goesL_ (some 21) rfl rfl Tryd.func17 (by kernel_rfl) rfl #[.int .u64 a0] rfl (by (try simp only [List.map_toArray, List.map_cons, List.map_nil]); first | done | rfl | (simp only [List.length_drop, List.length_take]; rfl)) ?_; (with_reducible refine (fp_Of.calls a0 t150 _ A6.out).mono ?_); rintro e w' ⟨rfl, ⟨nd, rfl⟩⟩; refine ⟨_, rfl, ?_⟩) | (go_at_call 18; (with_reducible refine (fp_Add.calls a0 a1 t151 _ A8.out).mono ?_); rintro e w' ⟨rfl, ⟨nd, rfl⟩⟩) | (go_at_call 19; (with_reducible refine (caucusref01_Add.calls a0 a1 t152 _ A9.out).mono ?_); rintro e w' ⟨rfl, ⟨nd, rfl⟩⟩) | (go_at_call 20; (with_reducible refine (fp_Sub.calls a0 a1 t153 _ A11.out).mono ?_); rintro e w' ⟨rfl, ⟨nd, rfl⟩⟩) | (go_at_call 21; (with_reducible refine (caucusref01_Sub.calls a0 a1 t154 _ A12.out).mono ?_); rintro e w' ⟨rfl, ⟨nd, rfl⟩⟩) | (go_at_call 22; (with_reducible refine (fp_Mul.calls a0 a1 t155 _ A14.out).mono ?_); rintro e w' ⟨rfl, ⟨nd, rfl⟩⟩) | (go_at_call 23; (with_reducible refine (caucusref01_Mul.calls k a0 a1 t156 _ A15.out).mono ?_); rintro e w' ⟨rfl, ⟨nd, rfl⟩⟩) | (go_at_call 24; (with_reducible refine (fp_Pow.calls k a0 a1 t157 _ A17.out).mono ?_); rintro e w' ⟨rfl, ⟨nd, rfl⟩⟩) | (go_at_call 25; (with_reducible refine (caucusref01_Pow.calls k a0 a1 t158 _ A18.out).mono ?_); rintro e w' ⟨rfl, ⟨nd, rfl⟩⟩))
            go_meet
            case rel => exact ⟨_, ((t157 != t158)), (by first | rfl | (simp; done) | (simp [*]; done)), H', ⟨by first | omega | exact Nat.le_refl _⟩, ⟨by repeat (first | (with_reducible first | exact HB.out | apply below_alloc | apply pw_below_drewN | apply below_drew1) | exact HB.out)⟩⟩
          · rw [if_neg c16] at H
            have c16b0 : (t155 == t156) = false := beq_eq_false_iff_ne.mpr c16
            have c16b1 : (t155 != t156) = true := bne_iff_ne.mpr c16
            have H' := Aside0.mk H
            clear H
            go_wp2_with (first | ((with_reducible refine gate_callee (f := 17) rfl ?_); refine goesL_ (some 21) rfl rfl Tryd.func17 (by kernel_rfl) rfl #[.int .u64 a0] rfl (by (try simp only [List.map_toArray, List.map_cons, List.map_nil]); first | done | rfl | (simp only [List.length_drop, List.length_take]; rfl)) ?_; (with_reducible refine (fp_Of.calls a0 t150 _ A6.out).mono ?_); rintro e w' ⟨rfl, ⟨nd, rfl⟩⟩; refine ⟨_, rfl, ?_⟩) | (go_at_call 18; (with_reducible refine (fp_Add.calls a0 a1 t151 _ A8.out).mono ?_); rintro e w' ⟨rfl, ⟨nd, rfl⟩⟩) | (go_at_call 19; (with_reducible refine (caucusref01_Add.calls a0 a1 t152 _ A9.out).mono ?_); rintro e w' ⟨rfl, ⟨nd, rfl⟩⟩) | (go_at_call 20; (with_reducible refine (fp_Sub.calls a0 a1 t153 _ A11.out).mono ?_); rintro e w' ⟨rfl, ⟨nd, rfl⟩⟩) | (go_at_call 21; (with_reducible refine (caucusref01_Sub.calls a0 a1 t154 _ A12.out).mono ?_); rintro e w' ⟨rfl, ⟨nd, rfl⟩⟩) | (go_at_call 22; (with_reducible refine (fp_Mul.calls a0 a1 t155 _ A14.out).mono ?_); rintro e w' ⟨rfl, ⟨nd, rfl⟩⟩) | (go_at_call 23; (with_reducible refine (caucusref01_Mul.calls k a0 a1 t156 _ A15.out).mono ?_); rintro e w' ⟨rfl, ⟨nd, rfl⟩⟩))
            go_meet
            case rel => exact ⟨_, (true), (by first | rfl | (simp; done) | (simp [*]; done)), H', ⟨by first | omega | exact Nat.le_refl _⟩, ⟨by repeat (first | (with_reducible first | exact HB.out | apply below_alloc | apply pw_below_drewN | apply below_drew1) | exact HB.out)⟩⟩
        · rw [if_neg c13] at H
          have c13b0 : (t153 == t154) = false := beq_eq_false_iff_ne.mpr c13
          have c13b1 : (t153 != t154) = true := bne_iff_ne.mpr c13
          have H' := Aside0.mk H
          clear H
          go_wp2_with (first | ((with_reducible refine gate_callee (f := 17) rfl ?_); refine goesL_ (some 21) rfl rfl Tryd.func17 (by kernel_rfl) rfl #[.int .u64 a0] rfl (by (try simp only [List.map_toArray, List.map_cons, List.map_nil]); first | done | rfl | (simp only [List.length_drop, List.length_take]; rfl)) ?_; (with_reducible refine (fp_Of.calls a0 t150 _ A6.out).mono ?_); rintro e w' ⟨rfl, ⟨nd, rfl⟩⟩; refine ⟨_, rfl, ?_⟩) | (go_at_call 18; (with_reducible refine (fp_Add.calls a0 a1 t151 _ A8.out).mono ?_); rintro e w' ⟨rfl, ⟨nd, rfl⟩⟩) | (go_at_call 19; (with_reducible refine (caucusref01_Add.calls a0 a1 t152 _ A9.out).mono ?_); rintro e w' ⟨rfl, ⟨nd, rfl⟩⟩) | (go_at_call 20; (with_reducible refine (fp_Sub.calls a0 a1 t153 _ A11.out).mono ?_); rintro e w' ⟨rfl, ⟨nd, rfl⟩⟩) | (go_at_call 21; (with_reducible refine (caucusref01_Sub.calls a0 a1 t154 _ A12.out).mono ?_); rintro e w' ⟨rfl, ⟨nd, rfl⟩⟩))
          go_meet
          case rel => exact ⟨_, (true), (by first | rfl | (simp; done) | (simp [*]; done)), H', ⟨by first | omega | exact Nat.le_refl _⟩, ⟨by repeat (first | (with_reducible first | exact HB.out | apply below_alloc | apply pw_below_drewN | apply below_drew1) | exact HB.out)⟩⟩
      · rw [if_neg c10] at H
        have c10b0 : (t151 == t152) = false := beq_eq_false_iff_ne.mpr c10
        have c10b1 : (t151 != t152) = true := bne_iff_ne.mpr c10
        have H' := Aside0.mk H
        clear H
        go_wp2_with (first | ((with_reducible refine gate_callee (f := 17) rfl ?_); refine goesL_ (some 21) rfl rfl Tryd.func17 (by kernel_rfl) rfl #[.int .u64 a0] rfl (by (try simp only [List.map_toArray, List.map_cons, List.map_nil]); first | done | rfl | (simp only [List.length_drop, List.length_take]; rfl)) ?_; (with_reducible refine (fp_Of.calls a0 t150 _ A6.out).mono ?_); rintro e w' ⟨rfl, ⟨nd, rfl⟩⟩; refine ⟨_, rfl, ?_⟩) | (go_at_call 18; (with_reducible refine (fp_Add.calls a0 a1 t151 _ A8.out).mono ?_); rintro e w' ⟨rfl, ⟨nd, rfl⟩⟩) | (go_at_call 19; (with_reducible refine (caucusref01_Add.calls a0 a1 t152 _ A9.out).mono ?_); rintro e w' ⟨rfl, ⟨nd, rfl⟩⟩))
        go_meet
        case rel => exact ⟨_, (true), (by first | rfl | (simp; done) | (simp [*]; done)), H', ⟨by first | omega | exact Nat.le_refl _⟩, ⟨by repeat (first | (with_reducible first | exact HB.out | apply below_alloc | apply pw_below_drewN | apply below_drew1) | exact HB.out)⟩⟩
    · rw [if_neg c7] at H
      have c7b0 : (t150 == (Int.tmod a0 2305843009213693951)) = false := beq_eq_false_iff_ne.mpr c7
      have c7b1 : (t150 != (Int.tmod a0 2305843009213693951)) = true := bne_iff_ne.mpr c7
      (first | rw [c7b0] | (simp only [i64_w, i32_w]; rw [c7b0]) | skip)
      have H' := Aside0.mk H
      clear H
      go_wp2_with (first | ((with_reducible refine gate_callee (f := 17) rfl ?_); refine goesL_ (some 21) rfl rfl Tryd.func17 (by kernel_rfl) rfl #[.int .u64 a0] rfl (by (try simp only [List.map_toArray, List.map_cons, List.map_nil]); first | done | rfl | (simp only [List.length_drop, List.length_take]; rfl)) ?_; (with_reducible refine (fp_Of.calls a0 t150 _ A6.out).mono ?_); rintro e w' ⟨rfl, ⟨nd, rfl⟩⟩; refine ⟨_, rfl, ?_⟩))
      go_meet
      case rel => exact ⟨_, (true), (by first | rfl | (simp; done) | (simp [*]; done)), H', ⟨by first | omega | exact Nat.le_refl _⟩, ⟨by repeat (first | (with_reducible first | exact HB.out | apply below_alloc | apply pw_below_drewN | apply below_drew1) | exact HB.out)⟩⟩
  case rest =>
    clear HC5
    try clear c1
    try clear p2
    try clear c3
    try clear c7
    try clear c7b0
    try clear c7b1
    try clear c10
    try clear c10b0
    try clear c10b1
    try clear c13
    try clear c13b0
    try clear c13b1
    try clear c15
    try clear c16
    try clear c16b0
    try clear c16b1
    try clear c17
    obtain ⟨kq, x60_4, rfl, HA, HJ4, HB⟩ := hcut
    cases kq with
    | zero => exact absurd HA.out (by simp [caucuslaw01_FpTells.j0])
    | succ kj4 =>
      have H := HA.out
      clear HA
      simp only [caucuslaw01_FpTells.j0] at H
      by_cases c19 : x60_4 = true
      · subst c19
        have H1 : (some false) = some r := by rw [if_pos rfl] at H; exact H
        clear H
        have H := H1
        clear H1
        obtain rfl := Option.some.inj H
        go_wp2
        go_ret
        exact ⟨by first | rfl | (simp [errW_none, errW_some] <;> rfl) | (simp [*, errW_none, errW_some] <;> rfl), by repeat (first | (with_reducible first | exact HB.out | apply below_alloc | apply pw_below_drewN | apply below_drew1) | exact HB.out)⟩
      · replace c19 := Bool.eq_false_iff.mpr c19
        subst c19
        have H1 : ((caucusref01_Inv.f kj4 a0).bind fun t159 => (if t146 = t159 then (if t147.isNone = true then (if (true != (decide ((Int.tmod a0 2305843009213693951) > 0))) = true then (caucuslaw01_FpTells.j1 kj4 a0 a1 t148 t149 true) else (caucuslaw01_FpTells.j1 kj4 a0 a1 t148 t149 false)) else (if (false != (decide ((Int.tmod a0 2305843009213693951) > 0))) = true then (caucuslaw01_FpTells.j1 kj4 a0 a1 t148 t149 true) else ((caucuslaw01_num.f (some (t147.getD 0))).bind fun t161 => (caucuslaw01_FpTells.j1 kj4 a0 a1 t148 t149 (t161 != 1))))) else (caucuslaw01_FpTells.j1 kj4 a0 a1 t148 t149 true))) = some r := by rw [if_neg (show ¬ (false = true) by decide)] at H; exact H
        clear H
        have H := H1
        clear H1
        have HC20 := Aside0.mk H
        clear H
        go_upto_region 5 with (fail)
        go_cut [81] (fun v81 wc => ∃ (kq : Nat) (x81_19 : Bool), v81 = .bool x81_19 ∧ Aside0 (caucuslaw01_FpTells.j1 kq a0 a1 t148 t149 x81_19 = some r) ∧ Aside0 (kq ≤ kj4) ∧ Aside0 (Below w.heap.size w wc))
        case first =>
          have H := HC20.out
          clear HC20
          replace H := Option.bind_eq_some_iff.mp H
          obtain ⟨t159, A210, H⟩ := H
          replace H : (if t146 = t159 then (if t147.isNone = true then (if (true != (decide ((Int.tmod a0 2305843009213693951) > 0))) = true then (caucuslaw01_FpTells.j1 kj4 a0 a1 t148 t149 true) else (caucuslaw01_FpTells.j1 kj4 a0 a1 t148 t149 false)) else (if (false != (decide ((Int.tmod a0 2305843009213693951) > 0))) = true then (caucuslaw01_FpTells.j1 kj4 a0 a1 t148 t149 true) else ((caucuslaw01_num.f (some (t147.getD 0))).bind fun t161 => (caucuslaw01_FpTells.j1 kj4 a0 a1 t148 t149 (t161 != 1))))) else (caucuslaw01_FpTells.j1 kj4 a0 a1 t148 t149 true)) = some r := H
          have A21 := Aside0.mk A210
          clear A210
          by_cases c22 : t146 = t159
          · rw [if_pos c22] at H
            have c22b0 : (t146 == t159) = true := beq_iff_eq.mpr c22
            have c22b1 : (t146 != t159) = false := bne_eq_false_iff_eq.mpr c22
            clear c22
            (first | rw [c22b0] | (simp only [i64_w, i32_w]; rw [c22b0]) | skip)
            rcases t147 with _ | q160
            · have H1 : (if (true != (decide ((Int.tmod a0 2305843009213693951) > 0))) = true then (caucuslaw01_FpTells.j1 kj4 a0 a1 t148 t149 true) else (caucuslaw01_FpTells.j1 kj4 a0 a1 t148 t149 false)) = some r := by rw [if_pos (show (none : Option Int).isNone = true by rfl)] at H; exact H
              clear H
              have H := H1
              clear H1
              try simp only [errW_none, errW_some]
              by_cases c23 : (true != (decide ((Int.tmod a0 2305843009213693951) > 0))) = true
              · rw [if_pos c23] at H
                have c23b0 : (true != (decide ((Int.tmod a0 2305843009213693951) > 0))) = true := c23
                (try (have c23b1 : decide (true = (decide ((Int.tmod a0 2305843009213693951) > 0))) = false := by simpa using c23))
                (try (have c23b2 : (true == (decide ((Int.tmod a0 2305843009213693951) > 0))) = false := by simpa using c23))
                (try (have c23b3 : ¬ (true = (decide ((Int.tmod a0 2305843009213693951) > 0))) := by simpa using c23))
                clear c23
                have H' := Aside0.mk H
                clear H
                go_wp2_with (first | ((with_reducible refine gate_callee (f := 26) rfl ?_); refine goesL_ (some 63) rfl rfl Tryd.func26 (by kernel_rfl) rfl #[.int .u64 a0] rfl (by (try simp only [List.map_toArray, List.map_cons, List.map_nil]); first | done | rfl | (simp only [List.length_drop, List.length_take]; rfl)) ?_; (with_reducible refine (caucusref01_Inv.calls kj4 a0 t159 _ A21.out).mono ?_); rintro e w' ⟨rfl, ⟨nd, rfl⟩⟩; refine ⟨_, rfl, ?_⟩))
                go_meet
                case rel => exact ⟨_, (true), (by first | rfl | (simp; done) | (simp [*]; done)), H', ⟨by have := HJ4.out; first | omega | exact Nat.le_refl _⟩, ⟨by repeat (first | (with_reducible first | exact HB.out | apply below_alloc | apply pw_below_drewN | apply below_drew1) | exact HB.out)⟩⟩
              · rw [if_neg c23] at H
                have c23b0 : (true != (decide ((Int.tmod a0 2305843009213693951) > 0))) = false := by simpa using c23
                (try (have c23b1 : decide (true = (decide ((Int.tmod a0 2305843009213693951) > 0))) = true := by simpa using c23))
                (try (have c23b2 : (true == (decide ((Int.tmod a0 2305843009213693951) > 0))) = true := by simpa using c23))
                clear c23
                have H' := Aside0.mk H
                clear H
                go_wp2_with (first | ((with_reducible refine gate_callee (f := 26) rfl ?_); refine goesL_ (some 63) rfl rfl Tryd.func26 (by kernel_rfl) rfl #[.int .u64 a0] rfl (by (try simp only [List.map_toArray, List.map_cons, List.map_nil]); first | done | rfl | (simp only [List.length_drop, List.length_take]; rfl)) ?_; (with_reducible refine (caucusref01_Inv.calls kj4 a0 t159 _ A21.out).mono ?_); rintro e w' ⟨rfl, ⟨nd, rfl⟩⟩; refine ⟨_, rfl, ?_⟩))
                go_meet
                case rel => exact ⟨_, (false), (by first | rfl | (simp; done) | (simp [*]; done)), H', ⟨by have := HJ4.out; first | omega | exact Nat.le_refl _⟩, ⟨by repeat (first | (with_reducible first | exact HB.out | apply below_alloc | apply pw_below_drewN | apply below_drew1) | exact HB.out)⟩⟩
            · have H1 : (if (false != (decide ((Int.tmod a0 2305843009213693951) > 0))) = true then (caucuslaw01_FpTells.j1 kj4 a0 a1 t148 t149 true) else ((caucuslaw01_num.f (some q160)).bind fun t161 => (caucuslaw01_FpTells.j1 kj4 a0 a1 t148 t149 (t161 != 1)))) = some r := by rw [if_neg (show ¬ (some q160).isNone = true by simp)] at H; exact H
              clear H
              have H := H1
              clear H1
              try simp only [errW_none, errW_some]
              by_cases c24 : (false != (decide ((Int.tmod a0 2305843009213693951) > 0))) = true
              · rw [if_pos c24] at H
                have c24b0 : (false != (decide ((Int.tmod a0 2305843009213693951) > 0))) = true := c24
                (try (have c24b1 : decide (false = (decide ((Int.tmod a0 2305843009213693951) > 0))) = false := by simpa using c24))
                (try (have c24b2 : (false == (decide ((Int.tmod a0 2305843009213693951) > 0))) = false := by simpa using c24))
                (try (have c24b3 : ¬ (false = (decide ((Int.tmod a0 2305843009213693951) > 0))) := by simpa using c24))
                clear c24
                have H' := Aside0.mk H
                clear H
                go_wp2_with (first | ((with_reducible refine gate_callee (f := 26) rfl ?_); refine goesL_ (some 63) rfl rfl Tryd.func26 (by kernel_rfl) rfl #[.int .u64 a0] rfl (by (try simp only [List.map_toArray, List.map_cons, List.map_nil]); first | done | rfl | (simp only [List.length_drop, List.length_take]; rfl)) ?_; (with_reducible refine (caucusref01_Inv.calls kj4 a0 t159 _ A21.out).mono ?_); rintro e w' ⟨rfl, ⟨nd, rfl⟩⟩; refine ⟨_, rfl, ?_⟩))
                go_meet
                case rel => exact ⟨_, (true), (by first | rfl | (simp; done) | (simp [*]; done)), H', ⟨by have := HJ4.out; first | omega | exact Nat.le_refl _⟩, ⟨by repeat (first | (with_reducible first | exact HB.out | apply below_alloc | apply pw_below_drewN | apply below_drew1) | exact HB.out)⟩⟩
              · rw [if_neg c24] at H
                have c24b0 : (false != (decide ((Int.tmod a0 2305843009213693951) > 0))) = false := by simpa using c24
                (try (have c24b1 : decide (false = (decide ((Int.tmod a0 2305843009213693951) > 0))) = true := by simpa using c24))
                (try (have c24b2 : (false == (decide ((Int.tmod a0 2305843009213693951) > 0))) = true := by simpa using c24))
                clear c24
                replace H := Option.bind_eq_some_iff.mp H
                obtain ⟨t161, A250, H⟩ := H
                replace H : (caucuslaw01_FpTells.j1 kj4 a0 a1 t148 t149 (t161 != 1)) = some r := H
                have A25 := Aside0.mk A250
                clear A250
                have H' := Aside0.mk H
                clear H
                go_wp2_with (first | ((with_reducible refine gate_callee (f := 26) rfl ?_); refine goesL_ (some 63) rfl rfl Tryd.func26 (by kernel_rfl) rfl #[.int .u64 a0] rfl (by (try simp only [List.map_toArray, List.map_cons, List.map_nil]); first | done | rfl | (simp only [List.length_drop, List.length_take]; rfl)) ?_; (with_reducible refine (caucusref01_Inv.calls kj4 a0 t159 _ A21.out).mono ?_); rintro e w' ⟨rfl, ⟨nd, rfl⟩⟩; refine ⟨_, rfl, ?_⟩; have CA25 := fun W hG_ => caucuslaw01_num.calls (some q160) t161 W hG_ A25.out; try simp only [errW_none, errW_some] at CA25) | (go_at_call 27; (with_reducible refine (CA25 _ ?side1).mono ?_); (case side1 => exact As.LaidG.below HG.out (by repeat (first | (with_reducible first | exact HB.out | apply below_alloc | apply pw_below_drewN | apply below_drew1) | exact HB.out))); rintro e w26 ⟨rfl, hb⟩; have n0_ := Aside0.mk (below_step (by repeat (first | (with_reducible first | exact HB.out | apply below_alloc | apply pw_below_drewN | apply below_drew1) | exact HB.out)) hb); clear HB; have HB := n0_; clear n0_; (try clear hb); (try clear hb2); (try clear hk); (try clear hi)))
                go_meet
                case rel => exact ⟨_, ((t161 != 1)), (by first | rfl | (simp; done) | (simp [*]; done)), H', ⟨by have := HJ4.out; first | omega | exact Nat.le_refl _⟩, ⟨by repeat (first | (with_reducible first | exact HB.out | apply below_alloc | apply pw_below_drewN | apply below_drew1) | exact HB.out)⟩⟩
          · rw [if_neg c22] at H
            have c22b0 : (t146 == t159) = false := beq_eq_false_iff_ne.mpr c22
            have c22b1 : (t146 != t159) = true := bne_iff_ne.mpr c22
            (first | rw [c22b0] | (simp only [i64_w, i32_w]; rw [c22b0]) | skip)
            have H' := Aside0.mk H
            clear H
            go_wp2_with (first | ((with_reducible refine gate_callee (f := 26) rfl ?_); refine goesL_ (some 63) rfl rfl Tryd.func26 (by kernel_rfl) rfl #[.int .u64 a0] rfl (by (try simp only [List.map_toArray, List.map_cons, List.map_nil]); first | done | rfl | (simp only [List.length_drop, List.length_take]; rfl)) ?_; (with_reducible refine (caucusref01_Inv.calls kj4 a0 t159 _ A21.out).mono ?_); rintro e w' ⟨rfl, ⟨nd, rfl⟩⟩; refine ⟨_, rfl, ?_⟩))
            go_meet
            case rel => exact ⟨_, (true), (by first | rfl | (simp; done) | (simp [*]; done)), H', ⟨by have := HJ4.out; first | omega | exact Nat.le_refl _⟩, ⟨by repeat (first | (with_reducible first | exact HB.out | apply below_alloc | apply pw_below_drewN | apply below_drew1) | exact HB.out)⟩⟩
        case rest =>
          clear HC20
          try clear c1
          try clear q1
          try clear c2
          try clear p2
          try clear c3
          try clear c7
          try clear c7b0
          try clear c7b1
          try clear c10
          try clear c10b0
          try clear c10b1
          try clear c13
          try clear c13b0
          try clear c13b1
          try clear c15
          try clear c16
          try clear c16b0
          try clear c16b1
          try clear q16
          try clear c17
          try clear c19
          try clear c22
          try clear c22b0
          try clear c22b1
          try clear c23
          try clear c23b0
          try clear c23b1
          try clear c23b2
          try clear c24
          try clear c24b0
          try clear c24b1
          try clear c24b2
          try clear c26
          try clear p2
          try clear q160
          obtain ⟨kq, x81_19, rfl, HA, HJ19, HB⟩ := hcut
          cases kq with
          | zero => exact absurd HA.out (by simp [caucuslaw01_FpTells.j1])
          | succ kj19 =>
            have H := HA.out
            clear HA
            simp only [caucuslaw01_FpTells.j1] at H
            by_cases c27 : x81_19 = true
            · subst c27
              have H1 : (some false) = some r := by rw [if_pos rfl] at H; exact H
              clear H
              have H := H1
              clear H1
              obtain rfl := Option.some.inj H
              go_wp2
              go_ret
              exact ⟨by first | rfl | (simp [errW_none, errW_some] <;> rfl) | (simp [*, errW_none, errW_some] <;> rfl), by repeat (first | (with_reducible first | exact HB.out | apply below_alloc | apply pw_below_drewN | apply below_drew1) | exact HB.out)⟩
            · replace c27 := Bool.eq_false_iff.mpr c27
              subst c27
              have H1 : (if (Int.tmod a1 2305843009213693951) = 0 then (if t148 = 0 then ((caucuslaw01_num.f t149).bind fun t162 => (if t162 = 1 then ((caucuslaw01_sure.f kj19).bind fun t163 => (some t163)) else (some false))) else (some false)) else (if t149.isNone = true then ((caucusref01_Inv.f kj19 a1).bind fun t165 => ((caucusref01_Mul.f kj19 a0 t165).bind fun t166 => (if t148 = t166 then ((caucuslaw01_sure.f kj19).bind fun t167 => (some t167)) else (some false)))) else (some false))) = some r := by rw [if_neg (show ¬ (false = true) by decide)] at H; exact H
              clear H
              have H := H1
              clear H1
              by_cases c28 : (Int.tmod a1 2305843009213693951) = 0
              · rw [if_pos c28] at H
                have c28b0 : ((Int.tmod a1 2305843009213693951) == 0) = true := beq_iff_eq.mpr c28
                have c28b1 : ((Int.tmod a1 2305843009213693951) != 0) = false := bne_eq_false_iff_eq.mpr c28
                clear c28
                by_cases c29 : t148 = 0
                · rw [if_pos c29] at H
                  have c29b0 : (t148 == 0) = true := beq_iff_eq.mpr c29
                  have c29b1 : (t148 != 0) = false := bne_eq_false_iff_eq.mpr c29
                  clear c29
                  replace H := Option.bind_eq_some_iff.mp H
                  obtain ⟨t162, A300, H⟩ := H
                  replace H : (if t162 = 1 then ((caucuslaw01_sure.f kj19).bind fun t163 => (some t163)) else (some false)) = some r := H
                  have A30 := Aside0.mk A300
                  clear A300
                  by_cases c31 : t162 = 1
                  · rw [if_pos c31] at H
                    have c31b0 : (t162 == 1) = true := beq_iff_eq.mpr c31
                    have c31b1 : (t162 != 1) = false := bne_eq_false_iff_eq.mpr c31
                    clear c31
                    replace H := Option.bind_eq_some_iff.mp H
                    obtain ⟨t163, A320, H⟩ := H
                    replace H : (some t163) = some r := H
                    have A32 := Aside0.mk A320
                    clear A320
                    obtain rfl := Option.some.inj H
                    have CA30 := fun W hG_ => caucuslaw01_num.calls t149 t162 W hG_ A30.out
                    try simp only [errW_none, errW_some] at CA30
                    go_wp2_with (first | (go_at_call 27; (with_reducible refine (CA30 _ ?side1).mono ?_); (case side1 => exact As.LaidG.below HG.out (by repeat (first | (with_reducible first | exact HB.out | apply below_alloc | apply pw_below_drewN | apply below_drew1) | exact HB.out))); rintro e w33 ⟨rfl, hb⟩; have n0_ := Aside0.mk (below_step (by repeat (first | (with_reducible first | exact HB.out | apply below_alloc | apply pw_below_drewN | apply below_drew1) | exact HB.out)) hb); clear HB; have HB := n0_; clear n0_; (try clear hb); (try clear hb2); (try clear hk); (try clear hi)) | (go_at_call 28; (with_reducible refine (caucuslaw01_sure.calls kj19  t163 _ ?side1 A32.out).mono ?_); (case side1 => exact As.LaidG.below HG.out (by repeat (first | (with_reducible first | exact HB.out | apply below_alloc | apply pw_below_drewN | apply below_drew1) | exact HB.out))); rintro e w34 ⟨rfl, hb⟩; have n0_ := Aside0.mk (below_step (by repeat (first | (with_reducible first | exact HB.out | apply below_alloc | apply pw_below_drewN | apply below_drew1) | exact HB.out)) hb); clear HB; have HB := n0_; clear n0_; (try clear hb); (try clear hb2); (try clear hk); (try clear hi)))
                    go_ret
                    exact ⟨by first | rfl | (simp [errW_none, errW_some] <;> rfl) | (simp [*, errW_none, errW_some] <;> rfl), by repeat (first | (with_reducible first | exact HB.out | apply below_alloc | apply pw_below_drewN | apply below_drew1) | exact HB.out)⟩
                  · rw [if_neg c31] at H
                    have c31b0 : (t162 == 1) = false := beq_eq_false_iff_ne.mpr c31
                    have c31b1 : (t162 != 1) = true := bne_iff_ne.mpr c31
                    obtain rfl := Option.some.inj H
                    have CA30 := fun W hG_ => caucuslaw01_num.calls t149 t162 W hG_ A30.out
                    try simp only [errW_none, errW_some] at CA30
                    go_wp2_with (first | (go_at_call 27; (with_reducible refine (CA30 _ ?side1).mono ?_); (case side1 => exact As.LaidG.below HG.out (by repeat (first | (with_reducible first | exact HB.out | apply below_alloc | apply pw_below_drewN | apply below_drew1) | exact HB.out))); rintro e w35 ⟨rfl, hb⟩; have n0_ := Aside0.mk (below_step (by repeat (first | (with_reducible first | exact HB.out | apply below_alloc | apply pw_below_drewN | apply below_drew1) | exact HB.out)) hb); clear HB; have HB := n0_; clear n0_; (try clear hb); (try clear hb2); (try clear hk); (try clear hi)))
                    go_ret
                    exact ⟨by first | rfl | (simp [errW_none, errW_some] <;> rfl) | (simp [*, errW_none, errW_some] <;> rfl), by repeat (first | (with_reducible first | exact HB.out | apply below_alloc | apply pw_below_drewN | apply below_drew1) | exact HB.out)⟩
                · rw [if_neg c29] at H
                  have c29b0 : (t148 == 0) = false := beq_eq_false_iff_ne.mpr c29
                  have c29b1 : (t148 != 0) = true := bne_iff_ne.mpr c29
                  obtain rfl := Option.some.inj H
                  go_wp2
                  go_ret
                  exact ⟨by first | rfl | (simp [errW_none, errW_some] <;> rfl) | (simp [*, errW_none, errW_some] <;> rfl), by repeat (first | (with_reducible first | exact HB.out | apply below_alloc | apply pw_below_drewN | apply below_drew1) | exact HB.out)⟩
              · rw [if_neg c28] at H
                have c28b0 : ((Int.tmod a1 2305843009213693951) == 0) = false := beq_eq_false_iff_ne.mpr c28
                have c28b1 : ((Int.tmod a1 2305843009213693951) != 0) = true := bne_iff_ne.mpr c28
                rcases t149 with _ | q164
                · have H1 : ((caucusref01_Inv.f kj19 a1).bind fun t165 => ((caucusref01_Mul.f kj19 a0 t165).bind fun t166 => (if t148 = t166 then ((caucuslaw01_sure.f kj19).bind fun t167 => (some t167)) else (some false)))) = some r := by rw [if_pos (show (none : Option Int).isNone = true by rfl)] at H; exact H
                  clear H
                  have H := H1
                  clear H1
                  try simp only [errW_none, errW_some]
                  replace H := Option.bind_eq_some_iff.mp H
                  obtain ⟨t165, A360, H⟩ := H
                  replace H : ((caucusref01_Mul.f kj19 a0 t165).bind fun t166 => (if t148 = t166 then ((caucuslaw01_sure.f kj19).bind fun t167 => (some t167)) else (some false))) = some r := H
                  have A36 := Aside0.mk A360
                  clear A360
                  replace H := Option.bind_eq_some_iff.mp H
                  obtain ⟨t166, A370, H⟩ := H
                  replace H : (if t148 = t166 then ((caucuslaw01_sure.f kj19).bind fun t167 => (some t167)) else (some false)) = some r := H
                  have A37 := Aside0.mk A370
                  clear A370
                  by_cases c38 : t148 = t166
                  · rw [if_pos c38] at H
                    have c38b0 : (t148 == t166) = true := beq_iff_eq.mpr c38
                    have c38b1 : (t148 != t166) = false := bne_eq_false_iff_eq.mpr c38
                    clear c38
                    replace H := Option.bind_eq_some_iff.mp H
                    obtain ⟨t167, A390, H⟩ := H
                    replace H : (some t167) = some r := H
                    have A39 := Aside0.mk A390
                    clear A390
                    obtain rfl := Option.some.inj H
                    go_wp2_with (first | (go_at_call 26; (with_reducible refine (caucusref01_Inv.calls kj19 a1 t165 _ A36.out).mono ?_); rintro e w' ⟨rfl, ⟨nd, rfl⟩⟩) | (go_at_call 23; (with_reducible refine (caucusref01_Mul.calls kj19 a0 t165 t166 _ A37.out).mono ?_); rintro e w' ⟨rfl, ⟨nd, rfl⟩⟩) | (go_at_call 28; (with_reducible refine (caucuslaw01_sure.calls kj19  t167 _ ?side1 A39.out).mono ?_); (case side1 => exact As.LaidG.below HG.out (by repeat (first | (with_reducible first | exact HB.out | apply below_alloc | apply pw_below_drewN | apply below_drew1) | exact HB.out))); rintro e w40 ⟨rfl, hb⟩; have n0_ := Aside0.mk (below_step (by repeat (first | (with_reducible first | exact HB.out | apply below_alloc | apply pw_below_drewN | apply below_drew1) | exact HB.out)) hb); clear HB; have HB := n0_; clear n0_; (try clear hb); (try clear hb2); (try clear hk); (try clear hi)))
                    go_ret
                    exact ⟨by first | rfl | (simp [errW_none, errW_some] <;> rfl) | (simp [*, errW_none, errW_some] <;> rfl), by repeat (first | (with_reducible first | exact HB.out | apply below_alloc | apply pw_below_drewN | apply below_drew1) | exact HB.out)⟩
                  · rw [if_neg c38] at H
                    have c38b0 : (t148 == t166) = false := beq_eq_false_iff_ne.mpr c38
                    have c38b1 : (t148 != t166) = true := bne_iff_ne.mpr c38
                    obtain rfl := Option.some.inj H
                    go_wp2_with (first | (go_at_call 26; (with_reducible refine (caucusref01_Inv.calls kj19 a1 t165 _ A36.out).mono ?_); rintro e w' ⟨rfl, ⟨nd, rfl⟩⟩) | (go_at_call 23; (with_reducible refine (caucusref01_Mul.calls kj19 a0 t165 t166 _ A37.out).mono ?_); rintro e w' ⟨rfl, ⟨nd, rfl⟩⟩))
                    go_ret
                    exact ⟨by first | rfl | (simp [errW_none, errW_some] <;> rfl) | (simp [*, errW_none, errW_some] <;> rfl), by repeat (first | (with_reducible first | exact HB.out | apply below_alloc | apply pw_below_drewN | apply below_drew1) | exact HB.out)⟩
                · have H1 : (some false) = some r := by rw [if_neg (show ¬ (some q164).isNone = true by simp)] at H; exact H
                  clear H
                  have H := H1
                  clear H1
                  try simp only [errW_none, errW_some]
                  obtain rfl := Option.some.inj H
                  go_wp2
                  go_ret
                  exact ⟨by first | rfl | (simp [errW_none, errW_some] <;> rfl) | (simp [*, errW_none, errW_some] <;> rfl), by repeat (first | (with_reducible first | exact HB.out | apply below_alloc | apply pw_below_drewN | apply below_drew1) | exact HB.out)⟩

/-- THE ONE PURE STATEMENT of caucuslaw01_FpTells: yours. -/
def caucuslaw01_FpTells.Pure : Prop := ∀ (a0 : Int) (a1 : Int), (Lit.int .u64 a0).wf = true → (Lit.int .u64 a1).wf = true → ∃ k, caucuslaw01_FpTells.f k a0 a1 = some true
theorem caucuslaw01_FpTells.walk (P : caucuslaw01_FpTells.Pure) (a0 : Int) (a1 : Int) (w : World) (hG : As.LaidG w) (w0 : (Lit.int .u64 a0).wf = true) (w1 : (Lit.int .u64 a1).wf = true) :
    Calls Tryd.prog 3 #[.int .u64 a0, .int .u64 a1] w fun e w' => e = .returned (.bool true) ∧ Below w.heap.size w w' := by
  obtain ⟨k, h⟩ := P a0 a1 w0 w1
  refine (caucuslaw01_FpTells.calls k a0 a1 true w hG h).mono ?_
  rintro e w' ⟨rfl, hd⟩
  exact ⟨rfl, hd⟩

end Go.Proofs.YtbfgppecpkfcnaaDoor.PFp
