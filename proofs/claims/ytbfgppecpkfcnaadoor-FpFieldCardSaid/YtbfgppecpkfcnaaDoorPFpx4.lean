-- Written by a changed copy of the kit's print (wip/tools/patch_print.py), out of the translation. Not trusted: Lean checks it.
import Derived.Test.YtbfgppecpkfcnaaDoorPFpx0
import Derived.Test.YtbfgppecpkfcnaaDoorPFpx1
import Derived.Test.YtbfgppecpkfcnaaDoorPFpx2
namespace Go.Proofs.YtbfgppecpkfcnaaDoor.PFp
open Go.RowKit Go.Proofs.YtbfgppecpkfcnaaDoorW.PrintWords Go.Proofs.YtbfgppecpkfcnaaDoorW.PrintLast Go.Proofs.YtbfgppecpkfcnaaDoorW.PrintMore
attribute [local go_sem] max2_int min2_int max_two min_two max_three min_three max_four min_four   -- for this text's walks alone
set_option linter.unusedVariables false
set_option linter.unusedSimpArgs false

/-! ### caucuslaw01_FpField: function 4 -/
mutual
def caucuslaw01_FpField.j0 : Nat → Int → Int → Int → Int → Int → Option Int → Bool → Option (Bool)
  | 0, _, _, _, _, _, _, _ => none
  | k + 1, x0, x1, x2, x7, x8, x9, x61 => if x61 = true then (some false) else ((fp_Add.f x1 x2).bind fun t183 => ((fp_Mul.f x0 t183).bind fun t184 => ((fp_Mul.f x0 x1).bind fun t185 => ((fp_Mul.f x0 x2).bind fun t186 => ((fp_Add.f t185 t186).bind fun t187 => (if t184 = t187 then ((fp_Sub.f x0 x1).bind fun t188 => ((fp_Add.f t188 x1).bind fun t189 => (if t189 = x7 then ((fp_Add.f x0 x1).bind fun t190 => ((fp_Sub.f t190 x1).bind fun t191 => (if t191 = x7 then ((fp_Add.f x0 0).bind fun t192 => (if t192 = x7 then ((fp_Mul.f x0 1).bind fun t193 => (if t193 = x7 then ((fp_Mul.f x0 0).bind fun t194 => (caucuslaw01_FpField.j1 k x0 x1 x7 x8 x9 (t194 != 0))) else (caucuslaw01_FpField.j1 k x0 x1 x7 x8 x9 true))) else (caucuslaw01_FpField.j1 k x0 x1 x7 x8 x9 true))) else (caucuslaw01_FpField.j1 k x0 x1 x7 x8 x9 true)))) else (caucuslaw01_FpField.j1 k x0 x1 x7 x8 x9 true)))) else (caucuslaw01_FpField.j1 k x0 x1 x7 x8 x9 true)))))))
def caucuslaw01_FpField.j1 : Nat → Int → Int → Int → Int → Option Int → Bool → Option (Bool)
  | 0, _, _, _, _, _, _ => none
  | k + 1, x0, x1, x7, x8, x9, x109 => if x109 = true then (some false) else ((fp_Inv.f k x0).bind fun bt195 => (if x9.isNone = true then ((fp_Mul.f x8 x1).bind fun t198 => (if t198 = x7 then (if bt195.2.isNone = true then (if (false == (x7 == 0)) = true then ((fp_Mul.f bt195.1 x0).bind fun t200 => (if t200 = 1 then ((fp_Add.f x0 x1).bind fun t201 => (if t201 < 2305843009213693951 then ((fp_Mul.f x0 x1).bind fun t202 => (if t202 < 2305843009213693951 then ((caucuslaw01_sure.f k).bind fun t203 => (some t203)) else (some false))) else (some false))) else (some false))) else (some false)) else (if (true == (x7 == 0)) = true then ((fp_Add.f x0 x1).bind fun t204 => (if t204 < 2305843009213693951 then ((fp_Mul.f x0 x1).bind fun t205 => (if t205 < 2305843009213693951 then ((caucuslaw01_sure.f k).bind fun t206 => (some t206)) else (some false))) else (some false))) else (some false))) else (some false))) else (if bt195.2.isNone = true then (if (false == (x7 == 0)) = true then ((fp_Mul.f bt195.1 x0).bind fun t208 => (if t208 = 1 then ((fp_Add.f x0 x1).bind fun t209 => (if t209 < 2305843009213693951 then ((fp_Mul.f x0 x1).bind fun t210 => (if t210 < 2305843009213693951 then ((caucuslaw01_sure.f k).bind fun t211 => (some t211)) else (some false))) else (some false))) else (some false))) else (some false)) else (if (true == (x7 == 0)) = true then ((fp_Add.f x0 x1).bind fun t212 => (if t212 < 2305843009213693951 then ((fp_Mul.f x0 x1).bind fun t213 => (if t213 < 2305843009213693951 then ((caucuslaw01_sure.f k).bind fun t214 => (some t214)) else (some false))) else (some false))) else (some false)))))
end
def caucuslaw01_FpField.f (k : Nat) (a0 : Int) (a1 : Int) (a2 : Int) : Option (Bool) := (fp_Of.f a0).bind fun t168 => ((fp_Div.f k a0 a1).bind fun bt169 => ((fp_Add.f a0 a1).bind fun t171 => ((fp_Add.f a1 a0).bind fun t172 => (if t171 = t172 then ((fp_Mul.f a0 a1).bind fun t173 => ((fp_Mul.f a1 a0).bind fun t174 => (if t173 = t174 then ((fp_Add.f a0 a1).bind fun t175 => ((fp_Add.f t175 a2).bind fun t176 => ((fp_Add.f a1 a2).bind fun t177 => ((fp_Add.f a0 t177).bind fun t178 => (if t176 = t178 then ((fp_Mul.f a0 a1).bind fun t179 => ((fp_Mul.f t179 a2).bind fun t180 => ((fp_Mul.f a1 a2).bind fun t181 => ((fp_Mul.f a0 t181).bind fun t182 => (caucuslaw01_FpField.j0 k a0 a1 a2 t168 bt169.1 bt169.2 (t180 != t182)))))) else (caucuslaw01_FpField.j0 k a0 a1 a2 t168 bt169.1 bt169.2 true)))))) else (caucuslaw01_FpField.j0 k a0 a1 a2 t168 bt169.1 bt169.2 true)))) else (caucuslaw01_FpField.j0 k a0 a1 a2 t168 bt169.1 bt169.2 true)))))
theorem caucuslaw01_FpField.mono_l : ∀ k, (∀ y0 y1 y2 y3 y4 y5 y6, LeO (caucuslaw01_FpField.j0 k y0 y1 y2 y3 y4 y5 y6) (caucuslaw01_FpField.j0 (k + 1) y0 y1 y2 y3 y4 y5 y6)) ∧ (∀ y0 y1 y2 y3 y4 y5, LeO (caucuslaw01_FpField.j1 k y0 y1 y2 y3 y4 y5) (caucuslaw01_FpField.j1 (k + 1) y0 y1 y2 y3 y4 y5))
  | 0 => ⟨fun _ _ _ _ _ _ _ r h => by simp [caucuslaw01_FpField.j0] at h, fun _ _ _ _ _ _ r h => by simp [caucuslaw01_FpField.j1] at h⟩
  | k + 1 => by
    obtain ⟨ih0, ih1⟩ := caucuslaw01_FpField.mono_l k
    refine ⟨?_, ?_⟩
    · intro y0 y1 y2 y3 y4 y5 y6
      unfold caucuslaw01_FpField.j0
      repeat' first
      | (with_reducible exact ih0 _ _ _ _ _ _ _)
      | (with_reducible exact ih1 _ _ _ _ _ _)
      | (with_reducible exact caucuslaw01_sure.mono _)
      | (with_reducible exact fp_Div.mono _ _ _)
      | (with_reducible exact fp_Inv.mono _ _)
      | (with_reducible exact LeO.refl _)
      | (with_reducible exact LeO.none _)
      | (with_reducible refine LeO.ite ?_ ?_)
      | (with_reducible refine LeO.bind ?_ (fun _ => ?_))
      | exact ih0 _ _ _ _ _ _ _
      | exact ih1 _ _ _ _ _ _
      | exact caucuslaw01_sure.mono _
      | exact fp_Div.mono _ _ _
      | exact fp_Inv.mono _ _
      | exact LeO.none _
      | refine LeO.ite ?_ ?_
      | refine LeO.bind ?_ (fun _ => ?_)
    · intro y0 y1 y2 y3 y4 y5
      unfold caucuslaw01_FpField.j1
      repeat' first
      | (with_reducible exact ih0 _ _ _ _ _ _ _)
      | (with_reducible exact ih1 _ _ _ _ _ _)
      | (with_reducible exact caucuslaw01_sure.mono _)
      | (with_reducible exact fp_Div.mono _ _ _)
      | (with_reducible exact fp_Inv.mono _ _)
      | (with_reducible exact LeO.refl _)
      | (with_reducible exact LeO.none _)
      | (with_reducible refine LeO.ite ?_ ?_)
      | (with_reducible refine LeO.bind ?_ (fun _ => ?_))
      | exact ih0 _ _ _ _ _ _ _
      | exact ih1 _ _ _ _ _ _
      | exact caucuslaw01_sure.mono _
      | exact fp_Div.mono _ _ _
      | exact fp_Inv.mono _ _
      | exact LeO.none _
      | refine LeO.ite ?_ ?_
      | refine LeO.bind ?_ (fun _ => ?_)
theorem caucuslaw01_FpField.mono : ∀ a0 a1 a2 k, LeO (caucuslaw01_FpField.f k a0 a1 a2) (caucuslaw01_FpField.f (k + 1) a0 a1 a2) := by
  intro a0 a1 a2 k
  obtain ⟨ih0, ih1⟩ := caucuslaw01_FpField.mono_l k
  unfold caucuslaw01_FpField.f
  repeat' first
      | (with_reducible exact ih0 _ _ _ _ _ _ _)
      | (with_reducible exact ih1 _ _ _ _ _ _)
      | (with_reducible exact caucuslaw01_sure.mono _)
      | (with_reducible exact fp_Div.mono _ _ _)
      | (with_reducible exact fp_Inv.mono _ _)
      | (with_reducible exact LeO.refl _)
      | (with_reducible exact LeO.none _)
      | (with_reducible refine LeO.ite ?_ ?_)
      | (with_reducible refine LeO.bind ?_ (fun _ => ?_))
      | exact ih0 _ _ _ _ _ _ _
      | exact ih1 _ _ _ _ _ _
      | exact caucuslaw01_sure.mono _
      | exact fp_Div.mono _ _ _
      | exact fp_Inv.mono _ _
      | exact LeO.none _
      | refine LeO.ite ?_ ?_
      | refine LeO.bind ?_ (fun _ => ?_)
set_option maxHeartbeats 8000000 in
set_option maxRecDepth 100000 in
theorem caucuslaw01_FpField.calls (k : Nat) (a0 : Int) (a1 : Int) (a2 : Int) (r : Bool) (w : World) (hG : As.LaidG w) (h : caucuslaw01_FpField.f k a0 a1 a2 = some r) :
    Calls Tryd.prog 4 #[.int .u64 a0, .int .u64 a1, .int .u64 a2] w fun e w' => e = .returned (.bool r) ∧ Below w.heap.size w w' := by
  have hu24 := Tryd.underlying24
  have hu96 := Tryd.underlying96
  have HG := Aside0.mk hG
  clear hG
  have HB := Aside0.mk (Below.refl w.heap.size w)
  have H : ((fp_Of.f a0).bind fun t168 => ((fp_Div.f k a0 a1).bind fun bt169 => ((fp_Add.f a0 a1).bind fun t171 => ((fp_Add.f a1 a0).bind fun t172 => (if t171 = t172 then ((fp_Mul.f a0 a1).bind fun t173 => ((fp_Mul.f a1 a0).bind fun t174 => (if t173 = t174 then ((fp_Add.f a0 a1).bind fun t175 => ((fp_Add.f t175 a2).bind fun t176 => ((fp_Add.f a1 a2).bind fun t177 => ((fp_Add.f a0 t177).bind fun t178 => (if t176 = t178 then ((fp_Mul.f a0 a1).bind fun t179 => ((fp_Mul.f t179 a2).bind fun t180 => ((fp_Mul.f a1 a2).bind fun t181 => ((fp_Mul.f a0 t181).bind fun t182 => (caucuslaw01_FpField.j0 k a0 a1 a2 t168 bt169.1 bt169.2 (t180 != t182)))))) else (caucuslaw01_FpField.j0 k a0 a1 a2 t168 bt169.1 bt169.2 true)))))) else (caucuslaw01_FpField.j0 k a0 a1 a2 t168 bt169.1 bt169.2 true)))) else (caucuslaw01_FpField.j0 k a0 a1 a2 t168 bt169.1 bt169.2 true)))))) = some r := h
  clear h
  replace H := Option.bind_eq_some_iff.mp H
  obtain ⟨t168, A40, H⟩ := H
  replace H : ((fp_Div.f k a0 a1).bind fun bt169 => ((fp_Add.f a0 a1).bind fun t171 => ((fp_Add.f a1 a0).bind fun t172 => (if t171 = t172 then ((fp_Mul.f a0 a1).bind fun t173 => ((fp_Mul.f a1 a0).bind fun t174 => (if t173 = t174 then ((fp_Add.f a0 a1).bind fun t175 => ((fp_Add.f t175 a2).bind fun t176 => ((fp_Add.f a1 a2).bind fun t177 => ((fp_Add.f a0 t177).bind fun t178 => (if t176 = t178 then ((fp_Mul.f a0 a1).bind fun t179 => ((fp_Mul.f t179 a2).bind fun t180 => ((fp_Mul.f a1 a2).bind fun t181 => ((fp_Mul.f a0 t181).bind fun t182 => (caucuslaw01_FpField.j0 k a0 a1 a2 t168 bt169.1 bt169.2 (t180 != t182)))))) else (caucuslaw01_FpField.j0 k a0 a1 a2 t168 bt169.1 bt169.2 true)))))) else (caucuslaw01_FpField.j0 k a0 a1 a2 t168 bt169.1 bt169.2 true)))) else (caucuslaw01_FpField.j0 k a0 a1 a2 t168 bt169.1 bt169.2 true))))) = some r := H
  have A4 := Aside0.mk A40
  clear A40
  replace H := Option.bind_eq_some_iff.mp H
  obtain ⟨⟨t169, t170⟩, A50, H⟩ := H
  replace H : ((fp_Add.f a0 a1).bind fun t171 => ((fp_Add.f a1 a0).bind fun t172 => (if t171 = t172 then ((fp_Mul.f a0 a1).bind fun t173 => ((fp_Mul.f a1 a0).bind fun t174 => (if t173 = t174 then ((fp_Add.f a0 a1).bind fun t175 => ((fp_Add.f t175 a2).bind fun t176 => ((fp_Add.f a1 a2).bind fun t177 => ((fp_Add.f a0 t177).bind fun t178 => (if t176 = t178 then ((fp_Mul.f a0 a1).bind fun t179 => ((fp_Mul.f t179 a2).bind fun t180 => ((fp_Mul.f a1 a2).bind fun t181 => ((fp_Mul.f a0 t181).bind fun t182 => (caucuslaw01_FpField.j0 k a0 a1 a2 t168 t169 t170 (t180 != t182)))))) else (caucuslaw01_FpField.j0 k a0 a1 a2 t168 t169 t170 true)))))) else (caucuslaw01_FpField.j0 k a0 a1 a2 t168 t169 t170 true)))) else (caucuslaw01_FpField.j0 k a0 a1 a2 t168 t169 t170 true)))) = some r := H
  have A5 := Aside0.mk A50
  clear A50
  have HC6 := Aside0.mk H
  clear H
  go_enter Tryd.func4, Tryd.ntmps4
  go_upto_region 3 with (first | ((with_reducible refine gate_callee (f := 17) rfl ?_); refine goesL_ (some 13) rfl rfl Tryd.func17 (by kernel_rfl) rfl #[.int .u64 a0] rfl (by (try simp only [List.map_toArray, List.map_cons, List.map_nil]); first | done | rfl | (simp only [List.length_drop, List.length_take]; rfl)) ?_; (with_reducible refine (fp_Of.calls a0 t168 _ A4.out).mono ?_); rintro e w' ⟨rfl, ⟨nd, rfl⟩⟩; refine ⟨_, rfl, ?_⟩) | ((with_reducible refine gate_callee (f := 16) rfl ?_); refine goesL_ (some 17) rfl rfl Tryd.func16 (by kernel_rfl) rfl #[.int .u64 a0, .int .u64 a1] rfl (by (try simp only [List.map_toArray, List.map_cons, List.map_nil]); first | done | rfl | (simp only [List.length_drop, List.length_take]; rfl)) ?_; (with_reducible refine (fp_Div.calls k a0 a1 t169 t170 _ A5.out).mono ?_); rintro e w' ⟨rfl, ⟨nd, rfl⟩⟩; refine ⟨_, rfl, ?_⟩; (try simp only [errW_none, errW_some])))
  (try simp only [Act.put, List.setIfInBounds_toArray, List.set_cons_zero, List.set_cons_succ])
  go_cut [61] (fun v61 wc => ∃ (kq : Nat) (x61_5 : Bool), v61 = .bool x61_5 ∧ Aside0 (caucuslaw01_FpField.j0 kq a0 a1 a2 t168 t169 t170 x61_5 = some r) ∧ Aside0 (kq ≤ k) ∧ Aside0 (Below w.heap.size w wc))
  case first =>
    have H := HC6.out
    clear HC6
    replace H := Option.bind_eq_some_iff.mp H
    obtain ⟨t171, A70, H⟩ := H
    replace H : ((fp_Add.f a1 a0).bind fun t172 => (if t171 = t172 then ((fp_Mul.f a0 a1).bind fun t173 => ((fp_Mul.f a1 a0).bind fun t174 => (if t173 = t174 then ((fp_Add.f a0 a1).bind fun t175 => ((fp_Add.f t175 a2).bind fun t176 => ((fp_Add.f a1 a2).bind fun t177 => ((fp_Add.f a0 t177).bind fun t178 => (if t176 = t178 then ((fp_Mul.f a0 a1).bind fun t179 => ((fp_Mul.f t179 a2).bind fun t180 => ((fp_Mul.f a1 a2).bind fun t181 => ((fp_Mul.f a0 t181).bind fun t182 => (caucuslaw01_FpField.j0 k a0 a1 a2 t168 t169 t170 (t180 != t182)))))) else (caucuslaw01_FpField.j0 k a0 a1 a2 t168 t169 t170 true)))))) else (caucuslaw01_FpField.j0 k a0 a1 a2 t168 t169 t170 true)))) else (caucuslaw01_FpField.j0 k a0 a1 a2 t168 t169 t170 true))) = some r := H
    have A7 := Aside0.mk A70
    clear A70
    replace H := Option.bind_eq_some_iff.mp H
    obtain ⟨t172, A80, H⟩ := H
    replace H : (if t171 = t172 then ((fp_Mul.f a0 a1).bind fun t173 => ((fp_Mul.f a1 a0).bind fun t174 => (if t173 = t174 then ((fp_Add.f a0 a1).bind fun t175 => ((fp_Add.f t175 a2).bind fun t176 => ((fp_Add.f a1 a2).bind fun t177 => ((fp_Add.f a0 t177).bind fun t178 => (if t176 = t178 then ((fp_Mul.f a0 a1).bind fun t179 => ((fp_Mul.f t179 a2).bind fun t180 => ((fp_Mul.f a1 a2).bind fun t181 => ((fp_Mul.f a0 t181).bind fun t182 => (caucuslaw01_FpField.j0 k a0 a1 a2 t168 t169 t170 (t180 != t182)))))) else (caucuslaw01_FpField.j0 k a0 a1 a2 t168 t169 t170 true)))))) else (caucuslaw01_FpField.j0 k a0 a1 a2 t168 t169 t170 true)))) else (caucuslaw01_FpField.j0 k a0 a1 a2 t168 t169 t170 true)) = some r := H
    have A8 := Aside0.mk A80
    clear A80
    by_cases c9 : t171 = t172
    · rw [if_pos c9] at H
      have c9b0 : (t171 == t172) = true := beq_iff_eq.mpr c9
      have c9b1 : (t171 != t172) = false := bne_eq_false_iff_eq.mpr c9
      clear c9
      (first | rw [c9b0] | (simp only [i64_w, i32_w]; rw [c9b0]) | skip)
      replace H := Option.bind_eq_some_iff.mp H
      obtain ⟨t173, A100, H⟩ := H
      replace H : ((fp_Mul.f a1 a0).bind fun t174 => (if t173 = t174 then ((fp_Add.f a0 a1).bind fun t175 => ((fp_Add.f t175 a2).bind fun t176 => ((fp_Add.f a1 a2).bind fun t177 => ((fp_Add.f a0 t177).bind fun t178 => (if t176 = t178 then ((fp_Mul.f a0 a1).bind fun t179 => ((fp_Mul.f t179 a2).bind fun t180 => ((fp_Mul.f a1 a2).bind fun t181 => ((fp_Mul.f a0 t181).bind fun t182 => (caucuslaw01_FpField.j0 k a0 a1 a2 t168 t169 t170 (t180 != t182)))))) else (caucuslaw01_FpField.j0 k a0 a1 a2 t168 t169 t170 true)))))) else (caucuslaw01_FpField.j0 k a0 a1 a2 t168 t169 t170 true))) = some r := H
      have A10 := Aside0.mk A100
      clear A100
      replace H := Option.bind_eq_some_iff.mp H
      obtain ⟨t174, A110, H⟩ := H
      replace H : (if t173 = t174 then ((fp_Add.f a0 a1).bind fun t175 => ((fp_Add.f t175 a2).bind fun t176 => ((fp_Add.f a1 a2).bind fun t177 => ((fp_Add.f a0 t177).bind fun t178 => (if t176 = t178 then ((fp_Mul.f a0 a1).bind fun t179 => ((fp_Mul.f t179 a2).bind fun t180 => ((fp_Mul.f a1 a2).bind fun t181 => ((fp_Mul.f a0 t181).bind fun t182 => (caucuslaw01_FpField.j0 k a0 a1 a2 t168 t169 t170 (t180 != t182)))))) else (caucuslaw01_FpField.j0 k a0 a1 a2 t168 t169 t170 true)))))) else (caucuslaw01_FpField.j0 k a0 a1 a2 t168 t169 t170 true)) = some r := H
      have A11 := Aside0.mk A110
      clear A110
      by_cases c12 : t173 = t174
      · rw [if_pos c12] at H
        have c12b0 : (t173 == t174) = true := beq_iff_eq.mpr c12
        have c12b1 : (t173 != t174) = false := bne_eq_false_iff_eq.mpr c12
        clear c12
        replace H := Option.bind_eq_some_iff.mp H
        obtain ⟨t175, A130, H⟩ := H
        obtain rfl : t171 = t175 := Option.some.inj (A7.out.symm.trans A130)
        replace H : ((fp_Add.f t171 a2).bind fun t176 => ((fp_Add.f a1 a2).bind fun t177 => ((fp_Add.f a0 t177).bind fun t178 => (if t176 = t178 then ((fp_Mul.f a0 a1).bind fun t179 => ((fp_Mul.f t179 a2).bind fun t180 => ((fp_Mul.f a1 a2).bind fun t181 => ((fp_Mul.f a0 t181).bind fun t182 => (caucuslaw01_FpField.j0 k a0 a1 a2 t168 t169 t170 (t180 != t182)))))) else (caucuslaw01_FpField.j0 k a0 a1 a2 t168 t169 t170 true))))) = some r := H
        have A13 := Aside0.mk A130
        clear A130
        replace H := Option.bind_eq_some_iff.mp H
        obtain ⟨t176, A140, H⟩ := H
        replace H : ((fp_Add.f a1 a2).bind fun t177 => ((fp_Add.f a0 t177).bind fun t178 => (if t176 = t178 then ((fp_Mul.f a0 a1).bind fun t179 => ((fp_Mul.f t179 a2).bind fun t180 => ((fp_Mul.f a1 a2).bind fun t181 => ((fp_Mul.f a0 t181).bind fun t182 => (caucuslaw01_FpField.j0 k a0 a1 a2 t168 t169 t170 (t180 != t182)))))) else (caucuslaw01_FpField.j0 k a0 a1 a2 t168 t169 t170 true)))) = some r := H
        have A14 := Aside0.mk A140
        clear A140
        replace H := Option.bind_eq_some_iff.mp H
        obtain ⟨t177, A150, H⟩ := H
        replace H : ((fp_Add.f a0 t177).bind fun t178 => (if t176 = t178 then ((fp_Mul.f a0 a1).bind fun t179 => ((fp_Mul.f t179 a2).bind fun t180 => ((fp_Mul.f a1 a2).bind fun t181 => ((fp_Mul.f a0 t181).bind fun t182 => (caucuslaw01_FpField.j0 k a0 a1 a2 t168 t169 t170 (t180 != t182)))))) else (caucuslaw01_FpField.j0 k a0 a1 a2 t168 t169 t170 true))) = some r := H
        have A15 := Aside0.mk A150
        clear A150
        replace H := Option.bind_eq_some_iff.mp H
        obtain ⟨t178, A160, H⟩ := H
        replace H : (if t176 = t178 then ((fp_Mul.f a0 a1).bind fun t179 => ((fp_Mul.f t179 a2).bind fun t180 => ((fp_Mul.f a1 a2).bind fun t181 => ((fp_Mul.f a0 t181).bind fun t182 => (caucuslaw01_FpField.j0 k a0 a1 a2 t168 t169 t170 (t180 != t182)))))) else (caucuslaw01_FpField.j0 k a0 a1 a2 t168 t169 t170 true)) = some r := H
        have A16 := Aside0.mk A160
        clear A160
        by_cases c17 : t176 = t178
        · rw [if_pos c17] at H
          have c17b0 : (t176 == t178) = true := beq_iff_eq.mpr c17
          have c17b1 : (t176 != t178) = false := bne_eq_false_iff_eq.mpr c17
          clear c17
          replace H := Option.bind_eq_some_iff.mp H
          obtain ⟨t179, A180, H⟩ := H
          obtain rfl : t173 = t179 := Option.some.inj (A10.out.symm.trans A180)
          replace H : ((fp_Mul.f t173 a2).bind fun t180 => ((fp_Mul.f a1 a2).bind fun t181 => ((fp_Mul.f a0 t181).bind fun t182 => (caucuslaw01_FpField.j0 k a0 a1 a2 t168 t169 t170 (t180 != t182))))) = some r := H
          have A18 := Aside0.mk A180
          clear A180
          replace H := Option.bind_eq_some_iff.mp H
          obtain ⟨t180, A190, H⟩ := H
          replace H : ((fp_Mul.f a1 a2).bind fun t181 => ((fp_Mul.f a0 t181).bind fun t182 => (caucuslaw01_FpField.j0 k a0 a1 a2 t168 t169 t170 (t180 != t182)))) = some r := H
          have A19 := Aside0.mk A190
          clear A190
          replace H := Option.bind_eq_some_iff.mp H
          obtain ⟨t181, A200, H⟩ := H
          replace H : ((fp_Mul.f a0 t181).bind fun t182 => (caucuslaw01_FpField.j0 k a0 a1 a2 t168 t169 t170 (t180 != t182))) = some r := H
          have A20 := Aside0.mk A200
          clear A200
          replace H := Option.bind_eq_some_iff.mp H
          obtain ⟨t182, A210, H⟩ := H
          replace H : (caucuslaw01_FpField.j0 k a0 a1 a2 t168 t169 t170 (t180 != t182)) = some r := H
          have A21 := Aside0.mk A210
          clear A210
          have H' := Aside0.mk H
          clear H
          go_wp2_with (first | ((with_reducible refine gate_callee (f := 18) rfl ?_); refine goesL_ (some 22) rfl rfl Tryd.func18 (by kernel_rfl) rfl #[.int .u64 a0, .int .u64 a1] rfl (by (try simp only [List.map_toArray, List.map_cons, List.map_nil]); first | done | rfl | (simp only [List.length_drop, List.length_take]; rfl)) ?_; (with_reducible refine (fp_Add.calls a0 a1 t171 _ A7.out).mono ?_); rintro e w' ⟨rfl, ⟨nd, rfl⟩⟩; refine ⟨_, rfl, ?_⟩) | ((with_reducible refine gate_callee (f := 18) rfl ?_); refine goesL_ (some 25) rfl rfl Tryd.func18 (by kernel_rfl) rfl #[.int .u64 a1, .int .u64 a0] rfl (by (try simp only [List.map_toArray, List.map_cons, List.map_nil]); first | done | rfl | (simp only [List.length_drop, List.length_take]; rfl)) ?_; (with_reducible refine (fp_Add.calls a1 a0 t172 _ A8.out).mono ?_); rintro e w' ⟨rfl, ⟨nd, rfl⟩⟩; refine ⟨_, rfl, ?_⟩) | (go_at_call 22; (with_reducible refine (fp_Mul.calls a0 a1 t173 _ A10.out).mono ?_); rintro e w' ⟨rfl, ⟨nd, rfl⟩⟩) | (go_at_call 22; (with_reducible refine (fp_Mul.calls a1 a0 t174 _ A11.out).mono ?_); rintro e w' ⟨rfl, ⟨nd, rfl⟩⟩) | (go_at_call 18; (with_reducible refine (fp_Add.calls a0 a1 t171 _ A13.out).mono ?_); rintro e w' ⟨rfl, ⟨nd, rfl⟩⟩) | (go_at_call 18; (with_reducible refine (fp_Add.calls t171 a2 t176 _ A14.out).mono ?_); rintro e w' ⟨rfl, ⟨nd, rfl⟩⟩) | (go_at_call 18; (with_reducible refine (fp_Add.calls a1 a2 t177 _ A15.out).mono ?_); rintro e w' ⟨rfl, ⟨nd, rfl⟩⟩) | (go_at_call 18; (with_reducible refine (fp_Add.calls a0 t177 t178 _ A16.out).mono ?_); rintro e w' ⟨rfl, ⟨nd, rfl⟩⟩) | (go_at_call 22; (with_reducible refine (fp_Mul.calls a0 a1 t173 _ A18.out).mono ?_); rintro e w' ⟨rfl, ⟨nd, rfl⟩⟩) | (go_at_call 22; (with_reducible refine (fp_Mul.calls t173 a2 t180 _ A19.out).mono ?_); rintro e w' ⟨rfl, ⟨nd, rfl⟩⟩) | (go_at_call 22; (with_reducible refine (fp_Mul.calls a1 a2 t181 _ A20.out).mono ?_); rintro e w' ⟨rfl, ⟨nd, rfl⟩⟩) | (go_at_call 22; (with_reducible refine (fp_Mul.calls a0 t181 t182 _ A21.out).mono ?_); rintro e w' ⟨rfl, ⟨nd, rfl⟩⟩))
          go_meet
          case rel => exact ⟨_, ((t180 != t182)), (by first | rfl | (simp; done) | (simp [*]; done)), H', ⟨by first | omega | exact Nat.le_refl _⟩, ⟨by repeat (first | (with_reducible first | exact HB.out | apply below_alloc | apply pw_below_drewN | apply below_drew1) | exact HB.out)⟩⟩
        · rw [if_neg c17] at H
          have c17b0 : (t176 == t178) = false := beq_eq_false_iff_ne.mpr c17
          have c17b1 : (t176 != t178) = true := bne_iff_ne.mpr c17
          have H' := Aside0.mk H
          clear H
          go_wp2_with (first | ((with_reducible refine gate_callee (f := 18) rfl ?_); refine goesL_ (some 22) rfl rfl Tryd.func18 (by kernel_rfl) rfl #[.int .u64 a0, .int .u64 a1] rfl (by (try simp only [List.map_toArray, List.map_cons, List.map_nil]); first | done | rfl | (simp only [List.length_drop, List.length_take]; rfl)) ?_; (with_reducible refine (fp_Add.calls a0 a1 t171 _ A7.out).mono ?_); rintro e w' ⟨rfl, ⟨nd, rfl⟩⟩; refine ⟨_, rfl, ?_⟩) | ((with_reducible refine gate_callee (f := 18) rfl ?_); refine goesL_ (some 25) rfl rfl Tryd.func18 (by kernel_rfl) rfl #[.int .u64 a1, .int .u64 a0] rfl (by (try simp only [List.map_toArray, List.map_cons, List.map_nil]); first | done | rfl | (simp only [List.length_drop, List.length_take]; rfl)) ?_; (with_reducible refine (fp_Add.calls a1 a0 t172 _ A8.out).mono ?_); rintro e w' ⟨rfl, ⟨nd, rfl⟩⟩; refine ⟨_, rfl, ?_⟩) | (go_at_call 22; (with_reducible refine (fp_Mul.calls a0 a1 t173 _ A10.out).mono ?_); rintro e w' ⟨rfl, ⟨nd, rfl⟩⟩) | (go_at_call 22; (with_reducible refine (fp_Mul.calls a1 a0 t174 _ A11.out).mono ?_); rintro e w' ⟨rfl, ⟨nd, rfl⟩⟩) | (go_at_call 18; (with_reducible refine (fp_Add.calls a0 a1 t171 _ A13.out).mono ?_); rintro e w' ⟨rfl, ⟨nd, rfl⟩⟩) | (go_at_call 18; (with_reducible refine (fp_Add.calls t171 a2 t176 _ A14.out).mono ?_); rintro e w' ⟨rfl, ⟨nd, rfl⟩⟩) | (go_at_call 18; (with_reducible refine (fp_Add.calls a1 a2 t177 _ A15.out).mono ?_); rintro e w' ⟨rfl, ⟨nd, rfl⟩⟩) | (go_at_call 18; (with_reducible refine (fp_Add.calls a0 t177 t178 _ A16.out).mono ?_); rintro e w' ⟨rfl, ⟨nd, rfl⟩⟩))
          go_meet
          case rel => exact ⟨_, (true), (by first | rfl | (simp; done) | (simp [*]; done)), H', ⟨by first | omega | exact Nat.le_refl _⟩, ⟨by repeat (first | (with_reducible first | exact HB.out | apply below_alloc | apply pw_below_drewN | apply below_drew1) | exact HB.out)⟩⟩
      · rw [if_neg c12] at H
        have c12b0 : (t173 == t174) = false := beq_eq_false_iff_ne.mpr c12
        have c12b1 : (t173 != t174) = true := bne_iff_ne.mpr c12
        have H' := Aside0.mk H
        clear H
        go_wp2_with (first | ((with_reducible refine gate_callee (f := 18) rfl ?_); refine goesL_ (some 22) rfl rfl Tryd.func18 (by kernel_rfl) rfl #[.int .u64 a0, .int .u64 a1] rfl (by (try simp only [List.map_toArray, List.map_cons, List.map_nil]); first | done | rfl | (simp only [List.length_drop, List.length_take]; rfl)) ?_; (with_reducible refine (fp_Add.calls a0 a1 t171 _ A7.out).mono ?_); rintro e w' ⟨rfl, ⟨nd, rfl⟩⟩; refine ⟨_, rfl, ?_⟩) | ((with_reducible refine gate_callee (f := 18) rfl ?_); refine goesL_ (some 25) rfl rfl Tryd.func18 (by kernel_rfl) rfl #[.int .u64 a1, .int .u64 a0] rfl (by (try simp only [List.map_toArray, List.map_cons, List.map_nil]); first | done | rfl | (simp only [List.length_drop, List.length_take]; rfl)) ?_; (with_reducible refine (fp_Add.calls a1 a0 t172 _ A8.out).mono ?_); rintro e w' ⟨rfl, ⟨nd, rfl⟩⟩; refine ⟨_, rfl, ?_⟩) | (go_at_call 22; (with_reducible refine (fp_Mul.calls a0 a1 t173 _ A10.out).mono ?_); rintro e w' ⟨rfl, ⟨nd, rfl⟩⟩) | (go_at_call 22; (with_reducible refine (fp_Mul.calls a1 a0 t174 _ A11.out).mono ?_); rintro e w' ⟨rfl, ⟨nd, rfl⟩⟩))
        go_meet
        case rel => exact ⟨_, (true), (by first | rfl | (simp; done) | (simp [*]; done)), H', ⟨by first | omega | exact Nat.le_refl _⟩, ⟨by repeat (first | (with_reducible first | exact HB.out | apply below_alloc | apply pw_below_drewN | apply below_drew1) | exact HB.out)⟩⟩
    · rw [if_neg c9] at H
      have c9b0 : (t171 == t172) = false := beq_eq_false_iff_ne.mpr c9
      have c9b1 : (t171 != t172) = true := bne_iff_ne.mpr c9
      (first | rw [c9b0] | (simp only [i64_w, i32_w]; rw [c9b0]) | skip)
      have H' := Aside0.mk H
      clear H
      go_wp2_with (first | ((with_reducible refine gate_callee (f := 18) rfl ?_); refine goesL_ (some 22) rfl rfl Tryd.func18 (by kernel_rfl) rfl #[.int .u64 a0, .int .u64 a1] rfl (by (try simp only [List.map_toArray, List.map_cons, List.map_nil]); first | done | rfl | (simp only [List.length_drop, List.length_take]; rfl)) ?_; (with_reducible refine (fp_Add.calls a0 a1 t171 _ A7.out).mono ?_); rintro e w' ⟨rfl, ⟨nd, rfl⟩⟩; refine ⟨_, rfl, ?_⟩) | ((with_reducible refine gate_callee (f := 18) rfl ?_); refine goesL_ (some 25) rfl rfl Tryd.func18 (by kernel_rfl) rfl #[.int .u64 a1, .int .u64 a0] rfl (by (try simp only [List.map_toArray, List.map_cons, List.map_nil]); first | done | rfl | (simp only [List.length_drop, List.length_take]; rfl)) ?_; (with_reducible refine (fp_Add.calls a1 a0 t172 _ A8.out).mono ?_); rintro e w' ⟨rfl, ⟨nd, rfl⟩⟩; refine ⟨_, rfl, ?_⟩))
      go_meet
      case rel => exact ⟨_, (true), (by first | rfl | (simp; done) | (simp [*]; done)), H', ⟨by first | omega | exact Nat.le_refl _⟩, ⟨by repeat (first | (with_reducible first | exact HB.out | apply below_alloc | apply pw_below_drewN | apply below_drew1) | exact HB.out)⟩⟩
  case rest =>
    clear HC6
    try clear c1
    try clear p2
    try clear c4
    try clear c9
    try clear c9b0
    try clear c9b1
    try clear c12
    try clear c12b0
    try clear c12b1
    try clear c16
    try clear c17
    try clear c17b0
    try clear c17b1
    try clear c18
    obtain ⟨kq, x61_5, rfl, HA, HJ5, HB⟩ := hcut
    cases kq with
    | zero => exact absurd HA.out (by simp [caucuslaw01_FpField.j0])
    | succ kj5 =>
      have H := HA.out
      clear HA
      simp only [caucuslaw01_FpField.j0] at H
      by_cases c22 : x61_5 = true
      · subst c22
        have H1 : (some false) = some r := by rw [if_pos rfl] at H; exact H
        clear H
        have H := H1
        clear H1
        obtain rfl := Option.some.inj H
        go_wp2
        go_ret
        exact ⟨by first | rfl | (simp [errW_none, errW_some] <;> rfl) | (simp [*, errW_none, errW_some] <;> rfl), by repeat (first | (with_reducible first | exact HB.out | apply below_alloc | apply pw_below_drewN | apply below_drew1) | exact HB.out)⟩
      · replace c22 := Bool.eq_false_iff.mpr c22
        subst c22
        have H1 : ((fp_Add.f a1 a2).bind fun t183 => ((fp_Mul.f a0 t183).bind fun t184 => ((fp_Mul.f a0 a1).bind fun t185 => ((fp_Mul.f a0 a2).bind fun t186 => ((fp_Add.f t185 t186).bind fun t187 => (if t184 = t187 then ((fp_Sub.f a0 a1).bind fun t188 => ((fp_Add.f t188 a1).bind fun t189 => (if t189 = t168 then ((fp_Add.f a0 a1).bind fun t190 => ((fp_Sub.f t190 a1).bind fun t191 => (if t191 = t168 then ((fp_Add.f a0 0).bind fun t192 => (if t192 = t168 then ((fp_Mul.f a0 1).bind fun t193 => (if t193 = t168 then ((fp_Mul.f a0 0).bind fun t194 => (caucuslaw01_FpField.j1 kj5 a0 a1 t168 t169 t170 (t194 != 0))) else (caucuslaw01_FpField.j1 kj5 a0 a1 t168 t169 t170 true))) else (caucuslaw01_FpField.j1 kj5 a0 a1 t168 t169 t170 true))) else (caucuslaw01_FpField.j1 kj5 a0 a1 t168 t169 t170 true)))) else (caucuslaw01_FpField.j1 kj5 a0 a1 t168 t169 t170 true)))) else (caucuslaw01_FpField.j1 kj5 a0 a1 t168 t169 t170 true))))))) = some r := by rw [if_neg (show ¬ (false = true) by decide)] at H; exact H
        clear H
        have H := H1
        clear H1
        have HC23 := Aside0.mk H
        clear H
        go_upto_region 5 with (fail)
        go_cut [109] (fun v109 wc => ∃ (kq : Nat) (x109_22 : Bool), v109 = .bool x109_22 ∧ Aside0 (caucuslaw01_FpField.j1 kq a0 a1 t168 t169 t170 x109_22 = some r) ∧ Aside0 (kq ≤ kj5) ∧ Aside0 (Below w.heap.size w wc))
        case first =>
          have H := HC23.out
          clear HC23
          replace H := Option.bind_eq_some_iff.mp H
          obtain ⟨t183, A240, H⟩ := H
          replace H : ((fp_Mul.f a0 t183).bind fun t184 => ((fp_Mul.f a0 a1).bind fun t185 => ((fp_Mul.f a0 a2).bind fun t186 => ((fp_Add.f t185 t186).bind fun t187 => (if t184 = t187 then ((fp_Sub.f a0 a1).bind fun t188 => ((fp_Add.f t188 a1).bind fun t189 => (if t189 = t168 then ((fp_Add.f a0 a1).bind fun t190 => ((fp_Sub.f t190 a1).bind fun t191 => (if t191 = t168 then ((fp_Add.f a0 0).bind fun t192 => (if t192 = t168 then ((fp_Mul.f a0 1).bind fun t193 => (if t193 = t168 then ((fp_Mul.f a0 0).bind fun t194 => (caucuslaw01_FpField.j1 kj5 a0 a1 t168 t169 t170 (t194 != 0))) else (caucuslaw01_FpField.j1 kj5 a0 a1 t168 t169 t170 true))) else (caucuslaw01_FpField.j1 kj5 a0 a1 t168 t169 t170 true))) else (caucuslaw01_FpField.j1 kj5 a0 a1 t168 t169 t170 true)))) else (caucuslaw01_FpField.j1 kj5 a0 a1 t168 t169 t170 true)))) else (caucuslaw01_FpField.j1 kj5 a0 a1 t168 t169 t170 true)))))) = some r := H
          have A24 := Aside0.mk A240
          clear A240
          replace H := Option.bind_eq_some_iff.mp H
          obtain ⟨t184, A250, H⟩ := H
          replace H : ((fp_Mul.f a0 a1).bind fun t185 => ((fp_Mul.f a0 a2).bind fun t186 => ((fp_Add.f t185 t186).bind fun t187 => (if t184 = t187 then ((fp_Sub.f a0 a1).bind fun t188 => ((fp_Add.f t188 a1).bind fun t189 => (if t189 = t168 then ((fp_Add.f a0 a1).bind fun t190 => ((fp_Sub.f t190 a1).bind fun t191 => (if t191 = t168 then ((fp_Add.f a0 0).bind fun t192 => (if t192 = t168 then ((fp_Mul.f a0 1).bind fun t193 => (if t193 = t168 then ((fp_Mul.f a0 0).bind fun t194 => (caucuslaw01_FpField.j1 kj5 a0 a1 t168 t169 t170 (t194 != 0))) else (caucuslaw01_FpField.j1 kj5 a0 a1 t168 t169 t170 true))) else (caucuslaw01_FpField.j1 kj5 a0 a1 t168 t169 t170 true))) else (caucuslaw01_FpField.j1 kj5 a0 a1 t168 t169 t170 true)))) else (caucuslaw01_FpField.j1 kj5 a0 a1 t168 t169 t170 true)))) else (caucuslaw01_FpField.j1 kj5 a0 a1 t168 t169 t170 true))))) = some r := H
          have A25 := Aside0.mk A250
          clear A250
          replace H := Option.bind_eq_some_iff.mp H
          obtain ⟨t185, A260, H⟩ := H
          replace H : ((fp_Mul.f a0 a2).bind fun t186 => ((fp_Add.f t185 t186).bind fun t187 => (if t184 = t187 then ((fp_Sub.f a0 a1).bind fun t188 => ((fp_Add.f t188 a1).bind fun t189 => (if t189 = t168 then ((fp_Add.f a0 a1).bind fun t190 => ((fp_Sub.f t190 a1).bind fun t191 => (if t191 = t168 then ((fp_Add.f a0 0).bind fun t192 => (if t192 = t168 then ((fp_Mul.f a0 1).bind fun t193 => (if t193 = t168 then ((fp_Mul.f a0 0).bind fun t194 => (caucuslaw01_FpField.j1 kj5 a0 a1 t168 t169 t170 (t194 != 0))) else (caucuslaw01_FpField.j1 kj5 a0 a1 t168 t169 t170 true))) else (caucuslaw01_FpField.j1 kj5 a0 a1 t168 t169 t170 true))) else (caucuslaw01_FpField.j1 kj5 a0 a1 t168 t169 t170 true)))) else (caucuslaw01_FpField.j1 kj5 a0 a1 t168 t169 t170 true)))) else (caucuslaw01_FpField.j1 kj5 a0 a1 t168 t169 t170 true)))) = some r := H
          have A26 := Aside0.mk A260
          clear A260
          replace H := Option.bind_eq_some_iff.mp H
          obtain ⟨t186, A270, H⟩ := H
          replace H : ((fp_Add.f t185 t186).bind fun t187 => (if t184 = t187 then ((fp_Sub.f a0 a1).bind fun t188 => ((fp_Add.f t188 a1).bind fun t189 => (if t189 = t168 then ((fp_Add.f a0 a1).bind fun t190 => ((fp_Sub.f t190 a1).bind fun t191 => (if t191 = t168 then ((fp_Add.f a0 0).bind fun t192 => (if t192 = t168 then ((fp_Mul.f a0 1).bind fun t193 => (if t193 = t168 then ((fp_Mul.f a0 0).bind fun t194 => (caucuslaw01_FpField.j1 kj5 a0 a1 t168 t169 t170 (t194 != 0))) else (caucuslaw01_FpField.j1 kj5 a0 a1 t168 t169 t170 true))) else (caucuslaw01_FpField.j1 kj5 a0 a1 t168 t169 t170 true))) else (caucuslaw01_FpField.j1 kj5 a0 a1 t168 t169 t170 true)))) else (caucuslaw01_FpField.j1 kj5 a0 a1 t168 t169 t170 true)))) else (caucuslaw01_FpField.j1 kj5 a0 a1 t168 t169 t170 true))) = some r := H
          have A27 := Aside0.mk A270
          clear A270
          replace H := Option.bind_eq_some_iff.mp H
          obtain ⟨t187, A280, H⟩ := H
          replace H : (if t184 = t187 then ((fp_Sub.f a0 a1).bind fun t188 => ((fp_Add.f t188 a1).bind fun t189 => (if t189 = t168 then ((fp_Add.f a0 a1).bind fun t190 => ((fp_Sub.f t190 a1).bind fun t191 => (if t191 = t168 then ((fp_Add.f a0 0).bind fun t192 => (if t192 = t168 then ((fp_Mul.f a0 1).bind fun t193 => (if t193 = t168 then ((fp_Mul.f a0 0).bind fun t194 => (caucuslaw01_FpField.j1 kj5 a0 a1 t168 t169 t170 (t194 != 0))) else (caucuslaw01_FpField.j1 kj5 a0 a1 t168 t169 t170 true))) else (caucuslaw01_FpField.j1 kj5 a0 a1 t168 t169 t170 true))) else (caucuslaw01_FpField.j1 kj5 a0 a1 t168 t169 t170 true)))) else (caucuslaw01_FpField.j1 kj5 a0 a1 t168 t169 t170 true)))) else (caucuslaw01_FpField.j1 kj5 a0 a1 t168 t169 t170 true)) = some r := H
          have A28 := Aside0.mk A280
          clear A280
          by_cases c29 : t184 = t187
          · rw [if_pos c29] at H
            have c29b0 : (t184 == t187) = true := beq_iff_eq.mpr c29
            have c29b1 : (t184 != t187) = false := bne_eq_false_iff_eq.mpr c29
            clear c29
            (first | rw [c29b0] | (simp only [i64_w, i32_w]; rw [c29b0]) | skip)
            replace H := Option.bind_eq_some_iff.mp H
            obtain ⟨t188, A300, H⟩ := H
            replace H : ((fp_Add.f t188 a1).bind fun t189 => (if t189 = t168 then ((fp_Add.f a0 a1).bind fun t190 => ((fp_Sub.f t190 a1).bind fun t191 => (if t191 = t168 then ((fp_Add.f a0 0).bind fun t192 => (if t192 = t168 then ((fp_Mul.f a0 1).bind fun t193 => (if t193 = t168 then ((fp_Mul.f a0 0).bind fun t194 => (caucuslaw01_FpField.j1 kj5 a0 a1 t168 t169 t170 (t194 != 0))) else (caucuslaw01_FpField.j1 kj5 a0 a1 t168 t169 t170 true))) else (caucuslaw01_FpField.j1 kj5 a0 a1 t168 t169 t170 true))) else (caucuslaw01_FpField.j1 kj5 a0 a1 t168 t169 t170 true)))) else (caucuslaw01_FpField.j1 kj5 a0 a1 t168 t169 t170 true))) = some r := H
            have A30 := Aside0.mk A300
            clear A300
            replace H := Option.bind_eq_some_iff.mp H
            obtain ⟨t189, A310, H⟩ := H
            replace H : (if t189 = t168 then ((fp_Add.f a0 a1).bind fun t190 => ((fp_Sub.f t190 a1).bind fun t191 => (if t191 = t168 then ((fp_Add.f a0 0).bind fun t192 => (if t192 = t168 then ((fp_Mul.f a0 1).bind fun t193 => (if t193 = t168 then ((fp_Mul.f a0 0).bind fun t194 => (caucuslaw01_FpField.j1 kj5 a0 a1 t168 t169 t170 (t194 != 0))) else (caucuslaw01_FpField.j1 kj5 a0 a1 t168 t169 t170 true))) else (caucuslaw01_FpField.j1 kj5 a0 a1 t168 t169 t170 true))) else (caucuslaw01_FpField.j1 kj5 a0 a1 t168 t169 t170 true)))) else (caucuslaw01_FpField.j1 kj5 a0 a1 t168 t169 t170 true)) = some r := H
            have A31 := Aside0.mk A310
            clear A310
            by_cases c32 : t189 = t168
            · rw [if_pos c32] at H
              have c32b0 : (t189 == t168) = true := beq_iff_eq.mpr c32
              have c32b1 : (t189 != t168) = false := bne_eq_false_iff_eq.mpr c32
              clear c32
              replace H := Option.bind_eq_some_iff.mp H
              obtain ⟨t190, A330, H⟩ := H
              replace H : ((fp_Sub.f t190 a1).bind fun t191 => (if t191 = t168 then ((fp_Add.f a0 0).bind fun t192 => (if t192 = t168 then ((fp_Mul.f a0 1).bind fun t193 => (if t193 = t168 then ((fp_Mul.f a0 0).bind fun t194 => (caucuslaw01_FpField.j1 kj5 a0 a1 t168 t169 t170 (t194 != 0))) else (caucuslaw01_FpField.j1 kj5 a0 a1 t168 t169 t170 true))) else (caucuslaw01_FpField.j1 kj5 a0 a1 t168 t169 t170 true))) else (caucuslaw01_FpField.j1 kj5 a0 a1 t168 t169 t170 true))) = some r := H
              have A33 := Aside0.mk A330
              clear A330
              replace H := Option.bind_eq_some_iff.mp H
              obtain ⟨t191, A340, H⟩ := H
              replace H : (if t191 = t168 then ((fp_Add.f a0 0).bind fun t192 => (if t192 = t168 then ((fp_Mul.f a0 1).bind fun t193 => (if t193 = t168 then ((fp_Mul.f a0 0).bind fun t194 => (caucuslaw01_FpField.j1 kj5 a0 a1 t168 t169 t170 (t194 != 0))) else (caucuslaw01_FpField.j1 kj5 a0 a1 t168 t169 t170 true))) else (caucuslaw01_FpField.j1 kj5 a0 a1 t168 t169 t170 true))) else (caucuslaw01_FpField.j1 kj5 a0 a1 t168 t169 t170 true)) = some r := H
              have A34 := Aside0.mk A340
              clear A340
              by_cases c35 : t191 = t168
              · rw [if_pos c35] at H
                have c35b0 : (t191 == t168) = true := beq_iff_eq.mpr c35
                have c35b1 : (t191 != t168) = false := bne_eq_false_iff_eq.mpr c35
                clear c35
                replace H := Option.bind_eq_some_iff.mp H
                obtain ⟨t192, A360, H⟩ := H
                replace H : (if t192 = t168 then ((fp_Mul.f a0 1).bind fun t193 => (if t193 = t168 then ((fp_Mul.f a0 0).bind fun t194 => (caucuslaw01_FpField.j1 kj5 a0 a1 t168 t169 t170 (t194 != 0))) else (caucuslaw01_FpField.j1 kj5 a0 a1 t168 t169 t170 true))) else (caucuslaw01_FpField.j1 kj5 a0 a1 t168 t169 t170 true)) = some r := H
                have A36 := Aside0.mk A360
                clear A360
                by_cases c37 : t192 = t168
                · rw [if_pos c37] at H
                  have c37b0 : (t192 == t168) = true := beq_iff_eq.mpr c37
                  have c37b1 : (t192 != t168) = false := bne_eq_false_iff_eq.mpr c37
                  clear c37
                  replace H := Option.bind_eq_some_iff.mp H
                  obtain ⟨t193, A380, H⟩ := H
                  replace H : (if t193 = t168 then ((fp_Mul.f a0 0).bind fun t194 => (caucuslaw01_FpField.j1 kj5 a0 a1 t168 t169 t170 (t194 != 0))) else (caucuslaw01_FpField.j1 kj5 a0 a1 t168 t169 t170 true)) = some r := H
                  have A38 := Aside0.mk A380
                  clear A380
                  by_cases c39 : t193 = t168
                  · rw [if_pos c39] at H
                    have c39b0 : (t193 == t168) = true := beq_iff_eq.mpr c39
                    have c39b1 : (t193 != t168) = false := bne_eq_false_iff_eq.mpr c39
                    clear c39
                    replace H := Option.bind_eq_some_iff.mp H
                    obtain ⟨t194, A400, H⟩ := H
                    replace H : (caucuslaw01_FpField.j1 kj5 a0 a1 t168 t169 t170 (t194 != 0)) = some r := H
                    have A40 := Aside0.mk A400
                    clear A400
                    have H' := Aside0.mk H
                    clear H
                    go_wp2_with (first | ((with_reducible refine gate_callee (f := 18) rfl ?_); refine goesL_ (some 65) rfl rfl Tryd.func18 (by kernel_rfl) rfl #[.int .u64 a1, .int .u64 a2] rfl (by (try simp only [List.map_toArray, List.map_cons, List.map_nil]); first | done | rfl | (simp only [List.length_drop, List.length_take]; rfl)) ?_; (with_reducible refine (fp_Add.calls a1 a2 t183 _ A24.out).mono ?_); rintro e w' ⟨rfl, ⟨nd, rfl⟩⟩; refine ⟨_, rfl, ?_⟩) | ((with_reducible refine gate_callee (f := 22) rfl ?_); refine goesL_ (some 66) rfl rfl Tryd.func22 (by kernel_rfl) rfl #[.int .u64 a0, .int .u64 t183] rfl (by (try simp only [List.map_toArray, List.map_cons, List.map_nil]); first | done | rfl | (simp only [List.length_drop, List.length_take]; rfl)) ?_; (with_reducible refine (fp_Mul.calls a0 t183 t184 _ A25.out).mono ?_); rintro e w' ⟨rfl, ⟨nd, rfl⟩⟩; refine ⟨_, rfl, ?_⟩) | ((with_reducible refine gate_callee (f := 22) rfl ?_); refine goesL_ (some 69) rfl rfl Tryd.func22 (by kernel_rfl) rfl #[.int .u64 a0, .int .u64 a1] rfl (by (try simp only [List.map_toArray, List.map_cons, List.map_nil]); first | done | rfl | (simp only [List.length_drop, List.length_take]; rfl)) ?_; (with_reducible refine (fp_Mul.calls a0 a1 t185 _ A26.out).mono ?_); rintro e w' ⟨rfl, ⟨nd, rfl⟩⟩; refine ⟨_, rfl, ?_⟩) | ((with_reducible refine gate_callee (f := 22) rfl ?_); refine goesL_ (some 72) rfl rfl Tryd.func22 (by kernel_rfl) rfl #[.int .u64 a0, .int .u64 a2] rfl (by (try simp only [List.map_toArray, List.map_cons, List.map_nil]); first | done | rfl | (simp only [List.length_drop, List.length_take]; rfl)) ?_; (with_reducible refine (fp_Mul.calls a0 a2 t186 _ A27.out).mono ?_); rintro e w' ⟨rfl, ⟨nd, rfl⟩⟩; refine ⟨_, rfl, ?_⟩) | ((with_reducible refine gate_callee (f := 18) rfl ?_); refine goesL_ (some 73) rfl rfl Tryd.func18 (by kernel_rfl) rfl #[.int .u64 t185, .int .u64 t186] rfl (by (try simp only [List.map_toArray, List.map_cons, List.map_nil]); first | done | rfl | (simp only [List.length_drop, List.length_take]; rfl)) ?_; (with_reducible refine (fp_Add.calls t185 t186 t187 _ A28.out).mono ?_); rintro e w' ⟨rfl, ⟨nd, rfl⟩⟩; refine ⟨_, rfl, ?_⟩) | (go_at_call 20; (with_reducible refine (fp_Sub.calls a0 a1 t188 _ A30.out).mono ?_); rintro e w' ⟨rfl, ⟨nd, rfl⟩⟩) | (go_at_call 18; (with_reducible refine (fp_Add.calls t188 a1 t189 _ A31.out).mono ?_); rintro e w' ⟨rfl, ⟨nd, rfl⟩⟩) | (go_at_call 18; (with_reducible refine (fp_Add.calls a0 a1 t190 _ A33.out).mono ?_); rintro e w' ⟨rfl, ⟨nd, rfl⟩⟩) | (go_at_call 20; (with_reducible refine (fp_Sub.calls t190 a1 t191 _ A34.out).mono ?_); rintro e w' ⟨rfl, ⟨nd, rfl⟩⟩) | (go_at_call 18; (with_reducible refine (fp_Add.calls a0 0 t192 _ A36.out).mono ?_); rintro e w' ⟨rfl, ⟨nd, rfl⟩⟩) | (go_at_call 22; (with_reducible refine (fp_Mul.calls a0 1 t193 _ A38.out).mono ?_); rintro e w' ⟨rfl, ⟨nd, rfl⟩⟩) | (go_at_call 22; (with_reducible refine (fp_Mul.calls a0 0 t194 _ A40.out).mono ?_); rintro e w' ⟨rfl, ⟨nd, rfl⟩⟩))
                    go_meet
                    case rel => exact ⟨_, ((t194 != 0)), (by first | rfl | (simp; done) | (simp [*]; done)), H', ⟨by have := HJ5.out; first | omega | exact Nat.le_refl _⟩, ⟨by repeat (first | (with_reducible first | exact HB.out | apply below_alloc | apply pw_below_drewN | apply below_drew1) | exact HB.out)⟩⟩
                  · rw [if_neg c39] at H
                    have c39b0 : (t193 == t168) = false := beq_eq_false_iff_ne.mpr c39
                    have c39b1 : (t193 != t168) = true := bne_iff_ne.mpr c39
                    have H' := Aside0.mk H
                    clear H
                    go_wp2_with (first | ((with_reducible refine gate_callee (f := 18) rfl ?_); refine goesL_ (some 65) rfl rfl Tryd.func18 (by kernel_rfl) rfl #[.int .u64 a1, .int .u64 a2] rfl (by (try simp only [List.map_toArray, List.map_cons, List.map_nil]); first | done | rfl | (simp only [List.length_drop, List.length_take]; rfl)) ?_; (with_reducible refine (fp_Add.calls a1 a2 t183 _ A24.out).mono ?_); rintro e w' ⟨rfl, ⟨nd, rfl⟩⟩; refine ⟨_, rfl, ?_⟩) | ((with_reducible refine gate_callee (f := 22) rfl ?_); refine goesL_ (some 66) rfl rfl Tryd.func22 (by kernel_rfl) rfl #[.int .u64 a0, .int .u64 t183] rfl (by (try simp only [List.map_toArray, List.map_cons, List.map_nil]); first | done | rfl | (simp only [List.length_drop, List.length_take]; rfl)) ?_; (with_reducible refine (fp_Mul.calls a0 t183 t184 _ A25.out).mono ?_); rintro e w' ⟨rfl, ⟨nd, rfl⟩⟩; refine ⟨_, rfl, ?_⟩) | ((with_reducible refine gate_callee (f := 22) rfl ?_); refine goesL_ (some 69) rfl rfl Tryd.func22 (by kernel_rfl) rfl #[.int .u64 a0, .int .u64 a1] rfl (by (try simp only [List.map_toArray, List.map_cons, List.map_nil]); first | done | rfl | (simp only [List.length_drop, List.length_take]; rfl)) ?_; (with_reducible refine (fp_Mul.calls a0 a1 t185 _ A26.out).mono ?_); rintro e w' ⟨rfl, ⟨nd, rfl⟩⟩; refine ⟨_, rfl, ?_⟩) | ((with_reducible refine gate_callee (f := 22) rfl ?_); refine goesL_ (some 72) rfl rfl Tryd.func22 (by kernel_rfl) rfl #[.int .u64 a0, .int .u64 a2] rfl (by (try simp only [List.map_toArray, List.map_cons, List.map_nil]); first | done | rfl | (simp only [List.length_drop, List.length_take]; rfl)) ?_; (with_reducible refine (fp_Mul.calls a0 a2 t186 _ A27.out).mono ?_); rintro e w' ⟨rfl, ⟨nd, rfl⟩⟩; refine ⟨_, rfl, ?_⟩) | ((with_reducible refine gate_callee (f := 18) rfl ?_); refine goesL_ (some 73) rfl rfl Tryd.func18 (by kernel_rfl) rfl #[.int .u64 t185, .int .u64 t186] rfl (by (try simp only [List.map_toArray, List.map_cons, List.map_nil]); first | done | rfl | (simp only [List.length_drop, List.length_take]; rfl)) ?_; (with_reducible refine (fp_Add.calls t185 t186 t187 _ A28.out).mono ?_); rintro e w' ⟨rfl, ⟨nd, rfl⟩⟩; refine ⟨_, rfl, ?_⟩) | (go_at_call 20; (with_reducible refine (fp_Sub.calls a0 a1 t188 _ A30.out).mono ?_); rintro e w' ⟨rfl, ⟨nd, rfl⟩⟩) | (go_at_call 18; (with_reducible refine (fp_Add.calls t188 a1 t189 _ A31.out).mono ?_); rintro e w' ⟨rfl, ⟨nd, rfl⟩⟩) | (go_at_call 18; (with_reducible refine (fp_Add.calls a0 a1 t190 _ A33.out).mono ?_); rintro e w' ⟨rfl, ⟨nd, rfl⟩⟩) | (go_at_call 20; (with_reducible refine (fp_Sub.calls t190 a1 t191 _ A34.out).mono ?_); rintro e w' ⟨rfl, ⟨nd, rfl⟩⟩) | (go_at_call 18; (with_reducible refine (fp_Add.calls a0 0 t192 _ A36.out).mono ?_); rintro e w' ⟨rfl, ⟨nd, rfl⟩⟩) | (go_at_call 22; (with_reducible refine (fp_Mul.calls a0 1 t193 _ A38.out).mono ?_); rintro e w' ⟨rfl, ⟨nd, rfl⟩⟩))
                    go_meet
                    case rel => exact ⟨_, (true), (by first | rfl | (simp; done) | (simp [*]; done)), H', ⟨by have := HJ5.out; first | omega | exact Nat.le_refl _⟩, ⟨by repeat (first | (with_reducible first | exact HB.out | apply below_alloc | apply pw_below_drewN | apply below_drew1) | exact HB.out)⟩⟩
                · rw [if_neg c37] at H
                  have c37b0 : (t192 == t168) = false := beq_eq_false_iff_ne.mpr c37
                  have c37b1 : (t192 != t168) = true := bne_iff_ne.mpr c37
                  have H' := Aside0.mk H
                  clear H
                  go_wp2_with (first | ((with_reducible refine gate_callee (f := 18) rfl ?_); refine goesL_ (some 65) rfl rfl Tryd.func18 (by kernel_rfl) rfl #[.int .u64 a1, .int .u64 a2] rfl (by (try simp only [List.map_toArray, List.map_cons, List.map_nil]); first | done | rfl | (simp only [List.length_drop, List.length_take]; rfl)) ?_; (with_reducible refine (fp_Add.calls a1 a2 t183 _ A24.out).mono ?_); rintro e w' ⟨rfl, ⟨nd, rfl⟩⟩; refine ⟨_, rfl, ?_⟩) | ((with_reducible refine gate_callee (f := 22) rfl ?_); refine goesL_ (some 66) rfl rfl Tryd.func22 (by kernel_rfl) rfl #[.int .u64 a0, .int .u64 t183] rfl (by (try simp only [List.map_toArray, List.map_cons, List.map_nil]); first | done | rfl | (simp only [List.length_drop, List.length_take]; rfl)) ?_; (with_reducible refine (fp_Mul.calls a0 t183 t184 _ A25.out).mono ?_); rintro e w' ⟨rfl, ⟨nd, rfl⟩⟩; refine ⟨_, rfl, ?_⟩) | ((with_reducible refine gate_callee (f := 22) rfl ?_); refine goesL_ (some 69) rfl rfl Tryd.func22 (by kernel_rfl) rfl #[.int .u64 a0, .int .u64 a1] rfl (by (try simp only [List.map_toArray, List.map_cons, List.map_nil]); first | done | rfl | (simp only [List.length_drop, List.length_take]; rfl)) ?_; (with_reducible refine (fp_Mul.calls a0 a1 t185 _ A26.out).mono ?_); rintro e w' ⟨rfl, ⟨nd, rfl⟩⟩; refine ⟨_, rfl, ?_⟩) | ((with_reducible refine gate_callee (f := 22) rfl ?_); refine goesL_ (some 72) rfl rfl Tryd.func22 (by kernel_rfl) rfl #[.int .u64 a0, .int .u64 a2] rfl (by (try simp only [List.map_toArray, List.map_cons, List.map_nil]); first | done | rfl | (simp only [List.length_drop, List.length_take]; rfl)) ?_; (with_reducible refine (fp_Mul.calls a0 a2 t186 _ A27.out).mono ?_); rintro e w' ⟨rfl, ⟨nd, rfl⟩⟩; refine ⟨_, rfl, ?_⟩) | ((with_reducible refine gate_callee (f := 18) rfl ?_); refine goesL_ (some 73) rfl rfl Tryd.func18 (by kernel_rfl) rfl #[.int .u64 t185, .int .u64 t186] rfl (by (try simp only [List.map_toArray, List.map_cons, List.map_nil]); first | done | rfl | (simp only [List.length_drop, List.length_take]; rfl)) ?_; (with_reducible refine (fp_Add.calls t185 t186 t187 _ A28.out).mono ?_); rintro e w' ⟨rfl, ⟨nd, rfl⟩⟩; refine ⟨_, rfl, ?_⟩) | (go_at_call 20; (with_reducible refine (fp_Sub.calls a0 a1 t188 _ A30.out).mono ?_); rintro e w' ⟨rfl, ⟨nd, rfl⟩⟩) | (go_at_call 18; (with_reducible refine (fp_Add.calls t188 a1 t189 _ A31.out).mono ?_); rintro e w' ⟨rfl, ⟨nd, rfl⟩⟩) | (go_at_call 18; (with_reducible refine (fp_Add.calls a0 a1 t190 _ A33.out).mono ?_); rintro e w' ⟨rfl, ⟨nd, rfl⟩⟩) | (go_at_call 20; (with_reducible refine (fp_Sub.calls t190 a1 t191 _ A34.out).mono ?_); rintro e w' ⟨rfl, ⟨nd, rfl⟩⟩) | (go_at_call 18; (with_reducible refine (fp_Add.calls a0 0 t192 _ A36.out).mono ?_); rintro e w' ⟨rfl, ⟨nd, rfl⟩⟩))
                  go_meet
                  case rel => exact ⟨_, (true), (by first | rfl | (simp; done) | (simp [*]; done)), H', ⟨by have := HJ5.out; first | omega | exact Nat.le_refl _⟩, ⟨by repeat (first | (with_reducible first | exact HB.out | apply below_alloc | apply pw_below_drewN | apply below_drew1) | exact HB.out)⟩⟩
              · rw [if_neg c35] at H
                have c35b0 : (t191 == t168) = false := beq_eq_false_iff_ne.mpr c35
                have c35b1 : (t191 != t168) = true := bne_iff_ne.mpr c35
                have H' := Aside0.mk H
                clear H
                go_wp2_with (first | ((with_reducible refine gate_callee (f := 18) rfl ?_); refine goesL_ (some 65) rfl rfl Tryd.func18 (by kernel_rfl) rfl #[.int .u64 a1, .int .u64 a2] rfl (by (try simp only [List.map_toArray, List.map_cons, List.map_nil]); first | done | rfl | (simp only [List.length_drop, List.length_take]; rfl)) ?_; (with_reducible refine (fp_Add.calls a1 a2 t183 _ A24.out).mono ?_); rintro e w' ⟨rfl, ⟨nd, rfl⟩⟩; refine ⟨_, rfl, ?_⟩) | ((with_reducible refine gate_callee (f := 22) rfl ?_); refine goesL_ (some 66) rfl rfl Tryd.func22 (by kernel_rfl) rfl #[.int .u64 a0, .int .u64 t183] rfl (by (try simp only [List.map_toArray, List.map_cons, List.map_nil]); first | done | rfl | (simp only [List.length_drop, List.length_take]; rfl)) ?_; (with_reducible refine (fp_Mul.calls a0 t183 t184 _ A25.out).mono ?_); rintro e w' ⟨rfl, ⟨nd, rfl⟩⟩; refine ⟨_, rfl, ?_⟩) | ((with_reducible refine gate_callee (f := 22) rfl ?_); refine goesL_ (some 69) rfl rfl Tryd.func22 (by kernel_rfl) rfl #[.int .u64 a0, .int .u64 a1] rfl (by (try simp only [List.map_toArray, List.map_cons, List.map_nil]); first | done | rfl | (simp only [List.length_drop, List.length_take]; rfl)) ?_; (with_reducible refine (fp_Mul.calls a0 a1 t185 _ A26.out).mono ?_); rintro e w' ⟨rfl, ⟨nd, rfl⟩⟩; refine ⟨_, rfl, ?_⟩) | ((with_reducible refine gate_callee (f := 22) rfl ?_); refine goesL_ (some 72) rfl rfl Tryd.func22 (by kernel_rfl) rfl #[.int .u64 a0, .int .u64 a2] rfl (by (try simp only [List.map_toArray, List.map_cons, List.map_nil]); first | done | rfl | (simp only [List.length_drop, List.length_take]; rfl)) ?_; (with_reducible refine (fp_Mul.calls a0 a2 t186 _ A27.out).mono ?_); rintro e w' ⟨rfl, ⟨nd, rfl⟩⟩; refine ⟨_, rfl, ?_⟩) | ((with_reducible refine gate_callee (f := 18) rfl ?_); refine goesL_ (some 73) rfl rfl Tryd.func18 (by kernel_rfl) rfl #[.int .u64 t185, .int .u64 t186] rfl (by (try simp only [List.map_toArray, List.map_cons, List.map_nil]); first | done | rfl | (simp only [List.length_drop, List.length_take]; rfl)) ?_; (with_reducible refine (fp_Add.calls t185 t186 t187 _ A28.out).mono ?_); rintro e w' ⟨rfl, ⟨nd, rfl⟩⟩; refine ⟨_, rfl, ?_⟩) | (go_at_call 20; (with_reducible refine (fp_Sub.calls a0 a1 t188 _ A30.out).mono ?_); rintro e w' ⟨rfl, ⟨nd, rfl⟩⟩) | (go_at_call 18; (with_reducible refine (fp_Add.calls t188 a1 t189 _ A31.out).mono ?_); rintro e w' ⟨rfl, ⟨nd, rfl⟩⟩) | (go_at_call 18; (with_reducible refine (fp_Add.calls a0 a1 t190 _ A33.out).mono ?_); rintro e w' ⟨rfl, ⟨nd, rfl⟩⟩) | (go_at_call 20; (with_reducible refine (fp_Sub.calls t190 a1 t191 _ A34.out).mono ?_); rintro e w' ⟨rfl, ⟨nd, rfl⟩⟩))
                go_meet
                case rel => exact ⟨_, (true), (by first | rfl | (simp; done) | (simp [*]; done)), H', ⟨by have := HJ5.out; first | omega | exact Nat.le_refl _⟩, ⟨by repeat (first | (with_reducible first | exact HB.out | apply below_alloc | apply pw_below_drewN | apply below_drew1) | exact HB.out)⟩⟩
            · rw [if_neg c32] at H
              have c32b0 : (t189 == t168) = false := beq_eq_false_iff_ne.mpr c32
              have c32b1 : (t189 != t168) = true := bne_iff_ne.mpr c32
              have H' := Aside0.mk H
              clear H
              go_wp2_with (first | ((with_reducible refine gate_callee (f := 18) rfl ?_); refine goesL_ (some 65) rfl rfl Tryd.func18 (by kernel_rfl) rfl #[.int .u64 a1, .int .u64 a2] rfl (by (try simp only [List.map_toArray, List.map_cons, List.map_nil]); first | done | rfl | (simp only [List.length_drop, List.length_take]; rfl)) ?_; (with_reducible refine (fp_Add.calls a1 a2 t183 _ A24.out).mono ?_); rintro e w' ⟨rfl, ⟨nd, rfl⟩⟩; refine ⟨_, rfl, ?_⟩) | ((with_reducible refine gate_callee (f := 22) rfl ?_); refine goesL_ (some 66) rfl rfl Tryd.func22 (by kernel_rfl) rfl #[.int .u64 a0, .int .u64 t183] rfl (by (try simp only [List.map_toArray, List.map_cons, List.map_nil]); first | done | rfl | (simp only [List.length_drop, List.length_take]; rfl)) ?_; (with_reducible refine (fp_Mul.calls a0 t183 t184 _ A25.out).mono ?_); rintro e w' ⟨rfl, ⟨nd, rfl⟩⟩; refine ⟨_, rfl, ?_⟩) | ((with_reducible refine gate_callee (f := 22) rfl ?_); refine goesL_ (some 69) rfl rfl Tryd.func22 (by kernel_rfl) rfl #[.int .u64 a0, .int .u64 a1] rfl (by (try simp only [List.map_toArray, List.map_cons, List.map_nil]); first | done | rfl | (simp only [List.length_drop, List.length_take]; rfl)) ?_; (with_reducible refine (fp_Mul.calls a0 a1 t185 _ A26.out).mono ?_); rintro e w' ⟨rfl, ⟨nd, rfl⟩⟩; refine ⟨_, rfl, ?_⟩) | ((with_reducible refine gate_callee (f := 22) rfl ?_); refine goesL_ (some 72) rfl rfl Tryd.func22 (by kernel_rfl) rfl #[.int .u64 a0, .int .u64 a2] rfl (by (try simp only [List.map_toArray, List.map_cons, List.map_nil]); first | done | rfl | (simp only [List.length_drop, List.length_take]; rfl)) ?_; (with_reducible refine (fp_Mul.calls a0 a2 t186 _ A27.out).mono ?_); rintro e w' ⟨rfl, ⟨nd, rfl⟩⟩; refine ⟨_, rfl, ?_⟩) | ((with_reducible refine gate_callee (f := 18) rfl ?_); refine goesL_ (some 73) rfl rfl Tryd.func18 (by kernel_rfl) rfl #[.int .u64 t185, .int .u64 t186] rfl (by (try simp only [List.map_toArray, List.map_cons, List.map_nil]); first | done | rfl | (simp only [List.length_drop, List.length_take]; rfl)) ?_; (with_reducible refine (fp_Add.calls t185 t186 t187 _ A28.out).mono ?_); rintro e w' ⟨rfl, ⟨nd, rfl⟩⟩; refine ⟨_, rfl, ?_⟩) | (go_at_call 20; (with_reducible refine (fp_Sub.calls a0 a1 t188 _ A30.out).mono ?_); rintro e w' ⟨rfl, ⟨nd, rfl⟩⟩) | (go_at_call 18; (with_reducible refine (fp_Add.calls t188 a1 t189 _ A31.out).mono ?_); rintro e w' ⟨rfl, ⟨nd, rfl⟩⟩))
              go_meet
              case rel => exact ⟨_, (true), (by first | rfl | (simp; done) | (simp [*]; done)), H', ⟨by have := HJ5.out; first | omega | exact Nat.le_refl _⟩, ⟨by repeat (first | (with_reducible first | exact HB.out | apply below_alloc | apply pw_below_drewN | apply below_drew1) | exact HB.out)⟩⟩
          · rw [if_neg c29] at H
            have c29b0 : (t184 == t187) = false := beq_eq_false_iff_ne.mpr c29
            have c29b1 : (t184 != t187) = true := bne_iff_ne.mpr c29
            (first | rw [c29b0] | (simp only [i64_w, i32_w]; rw [c29b0]) | skip)
            have H' := Aside0.mk H
            clear H
            go_wp2_with (first | ((with_reducible refine gate_callee (f := 18) rfl ?_); refine goesL_ (some 65) rfl rfl Tryd.func18 (by kernel_rfl) rfl #[.int .u64 a1, .int .u64 a2] rfl (by (try simp only [List.map_toArray, List.map_cons, List.map_nil]); first | done | rfl | (simp only [List.length_drop, List.length_take]; rfl)) ?_; (with_reducible refine (fp_Add.calls a1 a2 t183 _ A24.out).mono ?_); rintro e w' ⟨rfl, ⟨nd, rfl⟩⟩; refine ⟨_, rfl, ?_⟩) | ((with_reducible refine gate_callee (f := 22) rfl ?_); refine goesL_ (some 66) rfl rfl Tryd.func22 (by kernel_rfl) rfl #[.int .u64 a0, .int .u64 t183] rfl (by (try simp only [List.map_toArray, List.map_cons, List.map_nil]); first | done | rfl | (simp only [List.length_drop, List.length_take]; rfl)) ?_; (with_reducible refine (fp_Mul.calls a0 t183 t184 _ A25.out).mono ?_); rintro e w' ⟨rfl, ⟨nd, rfl⟩⟩; refine ⟨_, rfl, ?_⟩) | ((with_reducible refine gate_callee (f := 22) rfl ?_); refine goesL_ (some 69) rfl rfl Tryd.func22 (by kernel_rfl) rfl #[.int .u64 a0, .int .u64 a1] rfl (by (try simp only [List.map_toArray, List.map_cons, List.map_nil]); first | done | rfl | (simp only [List.length_drop, List.length_take]; rfl)) ?_; (with_reducible refine (fp_Mul.calls a0 a1 t185 _ A26.out).mono ?_); rintro e w' ⟨rfl, ⟨nd, rfl⟩⟩; refine ⟨_, rfl, ?_⟩) | ((with_reducible refine gate_callee (f := 22) rfl ?_); refine goesL_ (some 72) rfl rfl Tryd.func22 (by kernel_rfl) rfl #[.int .u64 a0, .int .u64 a2] rfl (by (try simp only [List.map_toArray, List.map_cons, List.map_nil]); first | done | rfl | (simp only [List.length_drop, List.length_take]; rfl)) ?_; (with_reducible refine (fp_Mul.calls a0 a2 t186 _ A27.out).mono ?_); rintro e w' ⟨rfl, ⟨nd, rfl⟩⟩; refine ⟨_, rfl, ?_⟩) | ((with_reducible refine gate_callee (f := 18) rfl ?_); refine goesL_ (some 73) rfl rfl Tryd.func18 (by kernel_rfl) rfl #[.int .u64 t185, .int .u64 t186] rfl (by (try simp only [List.map_toArray, List.map_cons, List.map_nil]); first | done | rfl | (simp only [List.length_drop, List.length_take]; rfl)) ?_; (with_reducible refine (fp_Add.calls t185 t186 t187 _ A28.out).mono ?_); rintro e w' ⟨rfl, ⟨nd, rfl⟩⟩; refine ⟨_, rfl, ?_⟩))
            go_meet
            case rel => exact ⟨_, (true), (by first | rfl | (simp; done) | (simp [*]; done)), H', ⟨by have := HJ5.out; first | omega | exact Nat.le_refl _⟩, ⟨by repeat (first | (with_reducible first | exact HB.out | apply below_alloc | apply pw_below_drewN | apply below_drew1) | exact HB.out)⟩⟩
        case rest =>
          clear HC23
          try clear c1
          try clear c2
          try clear p2
          try clear c3
          try clear c4
          try clear c9
          try clear c9b0
          try clear c9b1
          try clear c12
          try clear c12b0
          try clear c12b1
          try clear c16
          try clear c17
          try clear c17b0
          try clear c17b1
          try clear c18
          try clear c22
          try clear c29
          try clear c29b0
          try clear c29b1
          try clear c32
          try clear c32b0
          try clear c32b1
          try clear c35
          try clear c35b0
          try clear c35b1
          try clear c37
          try clear c37b0
          try clear c37b1
          try clear c39
          try clear c39b0
          try clear c39b1
          try clear p2
          obtain ⟨kq, x109_22, rfl, HA, HJ22, HB⟩ := hcut
          cases kq with
          | zero => exact absurd HA.out (by simp [caucuslaw01_FpField.j1])
          | succ kj22 =>
            have H := HA.out
            clear HA
            simp only [caucuslaw01_FpField.j1] at H
            by_cases c41 : x109_22 = true
            · subst c41
              have H1 : (some false) = some r := by rw [if_pos rfl] at H; exact H
              clear H
              have H := H1
              clear H1
              obtain rfl := Option.some.inj H
              go_wp2
              go_ret
              exact ⟨by first | rfl | (simp [errW_none, errW_some] <;> rfl) | (simp [*, errW_none, errW_some] <;> rfl), by repeat (first | (with_reducible first | exact HB.out | apply below_alloc | apply pw_below_drewN | apply below_drew1) | exact HB.out)⟩
            · replace c41 := Bool.eq_false_iff.mpr c41
              subst c41
              have H1 : ((fp_Inv.f kj22 a0).bind fun bt195 => (if t170.isNone = true then ((fp_Mul.f t169 a1).bind fun t198 => (if t198 = t168 then (if bt195.2.isNone = true then (if (false == (t168 == 0)) = true then ((fp_Mul.f bt195.1 a0).bind fun t200 => (if t200 = 1 then ((fp_Add.f a0 a1).bind fun t201 => (if t201 < 2305843009213693951 then ((fp_Mul.f a0 a1).bind fun t202 => (if t202 < 2305843009213693951 then ((caucuslaw01_sure.f kj22).bind fun t203 => (some t203)) else (some false))) else (some false))) else (some false))) else (some false)) else (if (true == (t168 == 0)) = true then ((fp_Add.f a0 a1).bind fun t204 => (if t204 < 2305843009213693951 then ((fp_Mul.f a0 a1).bind fun t205 => (if t205 < 2305843009213693951 then ((caucuslaw01_sure.f kj22).bind fun t206 => (some t206)) else (some false))) else (some false))) else (some false))) else (some false))) else (if bt195.2.isNone = true then (if (false == (t168 == 0)) = true then ((fp_Mul.f bt195.1 a0).bind fun t208 => (if t208 = 1 then ((fp_Add.f a0 a1).bind fun t209 => (if t209 < 2305843009213693951 then ((fp_Mul.f a0 a1).bind fun t210 => (if t210 < 2305843009213693951 then ((caucuslaw01_sure.f kj22).bind fun t211 => (some t211)) else (some false))) else (some false))) else (some false))) else (some false)) else (if (true == (t168 == 0)) = true then ((fp_Add.f a0 a1).bind fun t212 => (if t212 < 2305843009213693951 then ((fp_Mul.f a0 a1).bind fun t213 => (if t213 < 2305843009213693951 then ((caucuslaw01_sure.f kj22).bind fun t214 => (some t214)) else (some false))) else (some false))) else (some false))))) = some r := by rw [if_neg (show ¬ (false = true) by decide)] at H; exact H
              clear H
              have H := H1
              clear H1
              replace H := Option.bind_eq_some_iff.mp H
              obtain ⟨⟨t195, t196⟩, A420, H⟩ := H
              replace H : (if t170.isNone = true then ((fp_Mul.f t169 a1).bind fun t198 => (if t198 = t168 then (if t196.isNone = true then (if (false == (t168 == 0)) = true then ((fp_Mul.f t195 a0).bind fun t200 => (if t200 = 1 then ((fp_Add.f a0 a1).bind fun t201 => (if t201 < 2305843009213693951 then ((fp_Mul.f a0 a1).bind fun t202 => (if t202 < 2305843009213693951 then ((caucuslaw01_sure.f kj22).bind fun t203 => (some t203)) else (some false))) else (some false))) else (some false))) else (some false)) else (if (true == (t168 == 0)) = true then ((fp_Add.f a0 a1).bind fun t204 => (if t204 < 2305843009213693951 then ((fp_Mul.f a0 a1).bind fun t205 => (if t205 < 2305843009213693951 then ((caucuslaw01_sure.f kj22).bind fun t206 => (some t206)) else (some false))) else (some false))) else (some false))) else (some false))) else (if t196.isNone = true then (if (false == (t168 == 0)) = true then ((fp_Mul.f t195 a0).bind fun t208 => (if t208 = 1 then ((fp_Add.f a0 a1).bind fun t209 => (if t209 < 2305843009213693951 then ((fp_Mul.f a0 a1).bind fun t210 => (if t210 < 2305843009213693951 then ((caucuslaw01_sure.f kj22).bind fun t211 => (some t211)) else (some false))) else (some false))) else (some false))) else (some false)) else (if (true == (t168 == 0)) = true then ((fp_Add.f a0 a1).bind fun t212 => (if t212 < 2305843009213693951 then ((fp_Mul.f a0 a1).bind fun t213 => (if t213 < 2305843009213693951 then ((caucuslaw01_sure.f kj22).bind fun t214 => (some t214)) else (some false))) else (some false))) else (some false)))) = some r := H
              have A42 := Aside0.mk A420
              clear A420
              rcases t170 with _ | q197
              · have H1 : ((fp_Mul.f t169 a1).bind fun t198 => (if t198 = t168 then (if t196.isNone = true then (if (false == (t168 == 0)) = true then ((fp_Mul.f t195 a0).bind fun t200 => (if t200 = 1 then ((fp_Add.f a0 a1).bind fun t201 => (if t201 < 2305843009213693951 then ((fp_Mul.f a0 a1).bind fun t202 => (if t202 < 2305843009213693951 then ((caucuslaw01_sure.f kj22).bind fun t203 => (some t203)) else (some false))) else (some false))) else (some false))) else (some false)) else (if (true == (t168 == 0)) = true then ((fp_Add.f a0 a1).bind fun t204 => (if t204 < 2305843009213693951 then ((fp_Mul.f a0 a1).bind fun t205 => (if t205 < 2305843009213693951 then ((caucuslaw01_sure.f kj22).bind fun t206 => (some t206)) else (some false))) else (some false))) else (some false))) else (some false))) = some r := by rw [if_pos (show (none : Option Int).isNone = true by rfl)] at H; exact H
                clear H
                have H := H1
                clear H1
                try simp only [errW_none, errW_some]
                replace H := Option.bind_eq_some_iff.mp H
                obtain ⟨t198, A430, H⟩ := H
                replace H : (if t198 = t168 then (if t196.isNone = true then (if (false == (t168 == 0)) = true then ((fp_Mul.f t195 a0).bind fun t200 => (if t200 = 1 then ((fp_Add.f a0 a1).bind fun t201 => (if t201 < 2305843009213693951 then ((fp_Mul.f a0 a1).bind fun t202 => (if t202 < 2305843009213693951 then ((caucuslaw01_sure.f kj22).bind fun t203 => (some t203)) else (some false))) else (some false))) else (some false))) else (some false)) else (if (true == (t168 == 0)) = true then ((fp_Add.f a0 a1).bind fun t204 => (if t204 < 2305843009213693951 then ((fp_Mul.f a0 a1).bind fun t205 => (if t205 < 2305843009213693951 then ((caucuslaw01_sure.f kj22).bind fun t206 => (some t206)) else (some false))) else (some false))) else (some false))) else (some false)) = some r := H
                have A43 := Aside0.mk A430
                clear A430
                by_cases c44 : t198 = t168
                · rw [if_pos c44] at H
                  have c44b0 : (t198 == t168) = true := beq_iff_eq.mpr c44
                  have c44b1 : (t198 != t168) = false := bne_eq_false_iff_eq.mpr c44
                  clear c44
                  rcases t196 with _ | q199
                  · have H1 : (if (false == (t168 == 0)) = true then ((fp_Mul.f t195 a0).bind fun t200 => (if t200 = 1 then ((fp_Add.f a0 a1).bind fun t201 => (if t201 < 2305843009213693951 then ((fp_Mul.f a0 a1).bind fun t202 => (if t202 < 2305843009213693951 then ((caucuslaw01_sure.f kj22).bind fun t203 => (some t203)) else (some false))) else (some false))) else (some false))) else (some false)) = some r := by rw [if_pos (show (none : Option Int).isNone = true by rfl)] at H; exact H
                    clear H
                    have H := H1
                    clear H1
                    try simp only [errW_none, errW_some]
                    by_cases c45 : (false == (t168 == 0)) = true
                    · rw [if_pos c45] at H
                      have c45b0 : (false == (t168 == 0)) = true := c45
                      (try (have c45b1 : decide (false = (t168 == 0)) = true := by simpa using c45))
                      (try (have c45b2 : (false == (t168 == 0)) = true := by simpa using c45))
                      clear c45
                      replace H := Option.bind_eq_some_iff.mp H
                      obtain ⟨t200, A460, H⟩ := H
                      replace H : (if t200 = 1 then ((fp_Add.f a0 a1).bind fun t201 => (if t201 < 2305843009213693951 then ((fp_Mul.f a0 a1).bind fun t202 => (if t202 < 2305843009213693951 then ((caucuslaw01_sure.f kj22).bind fun t203 => (some t203)) else (some false))) else (some false))) else (some false)) = some r := H
                      have A46 := Aside0.mk A460
                      clear A460
                      by_cases c47 : t200 = 1
                      · rw [if_pos c47] at H
                        have c47b0 : (t200 == 1) = true := beq_iff_eq.mpr c47
                        have c47b1 : (t200 != 1) = false := bne_eq_false_iff_eq.mpr c47
                        clear c47
                        replace H := Option.bind_eq_some_iff.mp H
                        obtain ⟨t201, A480, H⟩ := H
                        replace H : (if t201 < 2305843009213693951 then ((fp_Mul.f a0 a1).bind fun t202 => (if t202 < 2305843009213693951 then ((caucuslaw01_sure.f kj22).bind fun t203 => (some t203)) else (some false))) else (some false)) = some r := H
                        have A48 := Aside0.mk A480
                        clear A480
                        by_cases c49 : t201 < 2305843009213693951
                        · rw [if_pos c49] at H
                          have c49b0 : decide (t201 < 2305843009213693951) = true := decide_eq_true c49
                          clear c49
                          replace H := Option.bind_eq_some_iff.mp H
                          obtain ⟨t202, A500, H⟩ := H
                          replace H : (if t202 < 2305843009213693951 then ((caucuslaw01_sure.f kj22).bind fun t203 => (some t203)) else (some false)) = some r := H
                          have A50 := Aside0.mk A500
                          clear A500
                          by_cases c51 : t202 < 2305843009213693951
                          · rw [if_pos c51] at H
                            have c51b0 : decide (t202 < 2305843009213693951) = true := decide_eq_true c51
                            clear c51
                            replace H := Option.bind_eq_some_iff.mp H
                            obtain ⟨t203, A520, H⟩ := H
                            replace H : (some t203) = some r := H
                            have A52 := Aside0.mk A520
                            clear A520
                            obtain rfl := Option.some.inj H
                            go_wp2_with (first | ((with_reducible refine gate_callee (f := 15) rfl ?_); refine goesL_ (some 112) rfl rfl Tryd.func15 (by kernel_rfl) rfl #[.int .u64 a0] rfl (by (try simp only [List.map_toArray, List.map_cons, List.map_nil]); first | done | rfl | (simp only [List.length_drop, List.length_take]; rfl)) ?_; (with_reducible refine (fp_Inv.calls kj22 a0 t195 none _ A42.out).mono ?_); rintro e w' ⟨rfl, ⟨nd, rfl⟩⟩; refine ⟨_, rfl, ?_⟩; (try simp only [errW_none, errW_some])) | (go_at_call 22; (with_reducible refine (fp_Mul.calls t169 a1 t198 _ A43.out).mono ?_); rintro e w' ⟨rfl, ⟨nd, rfl⟩⟩) | (go_at_call 22; (with_reducible refine (fp_Mul.calls t195 a0 t200 _ A46.out).mono ?_); rintro e w' ⟨rfl, ⟨nd, rfl⟩⟩) | (go_at_call 18; (with_reducible refine (fp_Add.calls a0 a1 t201 _ A48.out).mono ?_); rintro e w' ⟨rfl, ⟨nd, rfl⟩⟩) | (go_at_call 22; (with_reducible refine (fp_Mul.calls a0 a1 t202 _ A50.out).mono ?_); rintro e w' ⟨rfl, ⟨nd, rfl⟩⟩) | (go_at_call 28; (with_reducible refine (caucuslaw01_sure.calls kj22  t203 _ ?side1 A52.out).mono ?_); (case side1 => exact As.LaidG.below HG.out (by repeat (first | (with_reducible first | exact HB.out | apply below_alloc | apply pw_below_drewN | apply below_drew1) | exact HB.out))); rintro e w53 ⟨rfl, hb⟩; have n0_ := Aside0.mk (below_step (by repeat (first | (with_reducible first | exact HB.out | apply below_alloc | apply pw_below_drewN | apply below_drew1) | exact HB.out)) hb); clear HB; have HB := n0_; clear n0_; (try clear hb); (try clear hb2); (try clear hk); (try clear hi)))
                            go_ret
                            exact ⟨by first | rfl | (simp [errW_none, errW_some] <;> rfl) | (simp [*, errW_none, errW_some] <;> rfl), by repeat (first | (with_reducible first | exact HB.out | apply below_alloc | apply pw_below_drewN | apply below_drew1) | exact HB.out)⟩
                          · rw [if_neg c51] at H
                            have c51b0 : decide (t202 < 2305843009213693951) = false := decide_eq_false c51
                            clear c51
                            obtain rfl := Option.some.inj H
                            go_wp2_with (first | ((with_reducible refine gate_callee (f := 15) rfl ?_); refine goesL_ (some 112) rfl rfl Tryd.func15 (by kernel_rfl) rfl #[.int .u64 a0] rfl (by (try simp only [List.map_toArray, List.map_cons, List.map_nil]); first | done | rfl | (simp only [List.length_drop, List.length_take]; rfl)) ?_; (with_reducible refine (fp_Inv.calls kj22 a0 t195 none _ A42.out).mono ?_); rintro e w' ⟨rfl, ⟨nd, rfl⟩⟩; refine ⟨_, rfl, ?_⟩; (try simp only [errW_none, errW_some])) | (go_at_call 22; (with_reducible refine (fp_Mul.calls t169 a1 t198 _ A43.out).mono ?_); rintro e w' ⟨rfl, ⟨nd, rfl⟩⟩) | (go_at_call 22; (with_reducible refine (fp_Mul.calls t195 a0 t200 _ A46.out).mono ?_); rintro e w' ⟨rfl, ⟨nd, rfl⟩⟩) | (go_at_call 18; (with_reducible refine (fp_Add.calls a0 a1 t201 _ A48.out).mono ?_); rintro e w' ⟨rfl, ⟨nd, rfl⟩⟩) | (go_at_call 22; (with_reducible refine (fp_Mul.calls a0 a1 t202 _ A50.out).mono ?_); rintro e w' ⟨rfl, ⟨nd, rfl⟩⟩))
                            go_ret
                            exact ⟨by first | rfl | (simp [errW_none, errW_some] <;> rfl) | (simp [*, errW_none, errW_some] <;> rfl), by repeat (first | (with_reducible first | exact HB.out | apply below_alloc | apply pw_below_drewN | apply below_drew1) | exact HB.out)⟩
                        · rw [if_neg c49] at H
                          have c49b0 : decide (t201 < 2305843009213693951) = false := decide_eq_false c49
                          clear c49
                          obtain rfl := Option.some.inj H
                          go_wp2_with (first | ((with_reducible refine gate_callee (f := 15) rfl ?_); refine goesL_ (some 112) rfl rfl Tryd.func15 (by kernel_rfl) rfl #[.int .u64 a0] rfl (by (try simp only [List.map_toArray, List.map_cons, List.map_nil]); first | done | rfl | (simp only [List.length_drop, List.length_take]; rfl)) ?_; (with_reducible refine (fp_Inv.calls kj22 a0 t195 none _ A42.out).mono ?_); rintro e w' ⟨rfl, ⟨nd, rfl⟩⟩; refine ⟨_, rfl, ?_⟩; (try simp only [errW_none, errW_some])) | (go_at_call 22; (with_reducible refine (fp_Mul.calls t169 a1 t198 _ A43.out).mono ?_); rintro e w' ⟨rfl, ⟨nd, rfl⟩⟩) | (go_at_call 22; (with_reducible refine (fp_Mul.calls t195 a0 t200 _ A46.out).mono ?_); rintro e w' ⟨rfl, ⟨nd, rfl⟩⟩) | (go_at_call 18; (with_reducible refine (fp_Add.calls a0 a1 t201 _ A48.out).mono ?_); rintro e w' ⟨rfl, ⟨nd, rfl⟩⟩))
                          go_ret
                          exact ⟨by first | rfl | (simp [errW_none, errW_some] <;> rfl) | (simp [*, errW_none, errW_some] <;> rfl), by repeat (first | (with_reducible first | exact HB.out | apply below_alloc | apply pw_below_drewN | apply below_drew1) | exact HB.out)⟩
                      · rw [if_neg c47] at H
                        have c47b0 : (t200 == 1) = false := beq_eq_false_iff_ne.mpr c47
                        have c47b1 : (t200 != 1) = true := bne_iff_ne.mpr c47
                        obtain rfl := Option.some.inj H
                        go_wp2_with (first | ((with_reducible refine gate_callee (f := 15) rfl ?_); refine goesL_ (some 112) rfl rfl Tryd.func15 (by kernel_rfl) rfl #[.int .u64 a0] rfl (by (try simp only [List.map_toArray, List.map_cons, List.map_nil]); first | done | rfl | (simp only [List.length_drop, List.length_take]; rfl)) ?_; (with_reducible refine (fp_Inv.calls kj22 a0 t195 none _ A42.out).mono ?_); rintro e w' ⟨rfl, ⟨nd, rfl⟩⟩; refine ⟨_, rfl, ?_⟩; (try simp only [errW_none, errW_some])) | (go_at_call 22; (with_reducible refine (fp_Mul.calls t169 a1 t198 _ A43.out).mono ?_); rintro e w' ⟨rfl, ⟨nd, rfl⟩⟩) | (go_at_call 22; (with_reducible refine (fp_Mul.calls t195 a0 t200 _ A46.out).mono ?_); rintro e w' ⟨rfl, ⟨nd, rfl⟩⟩))
                        go_ret
                        exact ⟨by first | rfl | (simp [errW_none, errW_some] <;> rfl) | (simp [*, errW_none, errW_some] <;> rfl), by repeat (first | (with_reducible first | exact HB.out | apply below_alloc | apply pw_below_drewN | apply below_drew1) | exact HB.out)⟩
                    · rw [if_neg c45] at H
                      have c45b0 : (false == (t168 == 0)) = false := by simpa using c45
                      (try (have c45b1 : decide (false = (t168 == 0)) = false := by simpa using c45))
                      (try (have c45b2 : (false == (t168 == 0)) = false := by simpa using c45))
                      (try (have c45b3 : ¬ (false = (t168 == 0)) := by simpa using c45))
                      clear c45
                      obtain rfl := Option.some.inj H
                      go_wp2_with (first | ((with_reducible refine gate_callee (f := 15) rfl ?_); refine goesL_ (some 112) rfl rfl Tryd.func15 (by kernel_rfl) rfl #[.int .u64 a0] rfl (by (try simp only [List.map_toArray, List.map_cons, List.map_nil]); first | done | rfl | (simp only [List.length_drop, List.length_take]; rfl)) ?_; (with_reducible refine (fp_Inv.calls kj22 a0 t195 none _ A42.out).mono ?_); rintro e w' ⟨rfl, ⟨nd, rfl⟩⟩; refine ⟨_, rfl, ?_⟩; (try simp only [errW_none, errW_some])) | (go_at_call 22; (with_reducible refine (fp_Mul.calls t169 a1 t198 _ A43.out).mono ?_); rintro e w' ⟨rfl, ⟨nd, rfl⟩⟩))
                      go_ret
                      exact ⟨by first | rfl | (simp [errW_none, errW_some] <;> rfl) | (simp [*, errW_none, errW_some] <;> rfl), by repeat (first | (with_reducible first | exact HB.out | apply below_alloc | apply pw_below_drewN | apply below_drew1) | exact HB.out)⟩
                  · have H1 : (if (true == (t168 == 0)) = true then ((fp_Add.f a0 a1).bind fun t204 => (if t204 < 2305843009213693951 then ((fp_Mul.f a0 a1).bind fun t205 => (if t205 < 2305843009213693951 then ((caucuslaw01_sure.f kj22).bind fun t206 => (some t206)) else (some false))) else (some false))) else (some false)) = some r := by rw [if_neg (show ¬ (some q199).isNone = true by simp)] at H; exact H
                    clear H
                    have H := H1
                    clear H1
                    try simp only [errW_none, errW_some]
                    by_cases c54 : (true == (t168 == 0)) = true
                    · rw [if_pos c54] at H
                      have c54b0 : (true == (t168 == 0)) = true := c54
                      (try (have c54b1 : decide (true = (t168 == 0)) = true := by simpa using c54))
                      (try (have c54b2 : (true == (t168 == 0)) = true := by simpa using c54))
                      clear c54
                      replace H := Option.bind_eq_some_iff.mp H
                      obtain ⟨t204, A550, H⟩ := H
                      replace H : (if t204 < 2305843009213693951 then ((fp_Mul.f a0 a1).bind fun t205 => (if t205 < 2305843009213693951 then ((caucuslaw01_sure.f kj22).bind fun t206 => (some t206)) else (some false))) else (some false)) = some r := H
                      have A55 := Aside0.mk A550
                      clear A550
                      by_cases c56 : t204 < 2305843009213693951
                      · rw [if_pos c56] at H
                        have c56b0 : decide (t204 < 2305843009213693951) = true := decide_eq_true c56
                        clear c56
                        replace H := Option.bind_eq_some_iff.mp H
                        obtain ⟨t205, A570, H⟩ := H
                        replace H : (if t205 < 2305843009213693951 then ((caucuslaw01_sure.f kj22).bind fun t206 => (some t206)) else (some false)) = some r := H
                        have A57 := Aside0.mk A570
                        clear A570
                        by_cases c58 : t205 < 2305843009213693951
                        · rw [if_pos c58] at H
                          have c58b0 : decide (t205 < 2305843009213693951) = true := decide_eq_true c58
                          clear c58
                          replace H := Option.bind_eq_some_iff.mp H
                          obtain ⟨t206, A590, H⟩ := H
                          replace H : (some t206) = some r := H
                          have A59 := Aside0.mk A590
                          clear A590
                          obtain rfl := Option.some.inj H
                          go_wp2_with (first | ((with_reducible refine gate_callee (f := 15) rfl ?_); refine goesL_ (some 112) rfl rfl Tryd.func15 (by kernel_rfl) rfl #[.int .u64 a0] rfl (by (try simp only [List.map_toArray, List.map_cons, List.map_nil]); first | done | rfl | (simp only [List.length_drop, List.length_take]; rfl)) ?_; (with_reducible refine (fp_Inv.calls kj22 a0 t195 (some q199) _ A42.out).mono ?_); rintro e w' ⟨rfl, ⟨nd, rfl⟩⟩; refine ⟨_, rfl, ?_⟩; (try simp only [errW_none, errW_some])) | (go_at_call 22; (with_reducible refine (fp_Mul.calls t169 a1 t198 _ A43.out).mono ?_); rintro e w' ⟨rfl, ⟨nd, rfl⟩⟩) | (go_at_call 18; (with_reducible refine (fp_Add.calls a0 a1 t204 _ A55.out).mono ?_); rintro e w' ⟨rfl, ⟨nd, rfl⟩⟩) | (go_at_call 22; (with_reducible refine (fp_Mul.calls a0 a1 t205 _ A57.out).mono ?_); rintro e w' ⟨rfl, ⟨nd, rfl⟩⟩) | (go_at_call 28; (with_reducible refine (caucuslaw01_sure.calls kj22  t206 _ ?side1 A59.out).mono ?_); (case side1 => exact As.LaidG.below HG.out (by repeat (first | (with_reducible first | exact HB.out | apply below_alloc | apply pw_below_drewN | apply below_drew1) | exact HB.out))); rintro e w60 ⟨rfl, hb⟩; have n0_ := Aside0.mk (below_step (by repeat (first | (with_reducible first | exact HB.out | apply below_alloc | apply pw_below_drewN | apply below_drew1) | exact HB.out)) hb); clear HB; have HB := n0_; clear n0_; (try clear hb); (try clear hb2); (try clear hk); (try clear hi)))
                          go_ret
                          exact ⟨by first | rfl | (simp [errW_none, errW_some] <;> rfl) | (simp [*, errW_none, errW_some] <;> rfl), by repeat (first | (with_reducible first | exact HB.out | apply below_alloc | apply pw_below_drewN | apply below_drew1) | exact HB.out)⟩
                        · rw [if_neg c58] at H
                          have c58b0 : decide (t205 < 2305843009213693951) = false := decide_eq_false c58
                          clear c58
                          obtain rfl := Option.some.inj H
                          go_wp2_with (first | ((with_reducible refine gate_callee (f := 15) rfl ?_); refine goesL_ (some 112) rfl rfl Tryd.func15 (by kernel_rfl) rfl #[.int .u64 a0] rfl (by (try simp only [List.map_toArray, List.map_cons, List.map_nil]); first | done | rfl | (simp only [List.length_drop, List.length_take]; rfl)) ?_; (with_reducible refine (fp_Inv.calls kj22 a0 t195 (some q199) _ A42.out).mono ?_); rintro e w' ⟨rfl, ⟨nd, rfl⟩⟩; refine ⟨_, rfl, ?_⟩; (try simp only [errW_none, errW_some])) | (go_at_call 22; (with_reducible refine (fp_Mul.calls t169 a1 t198 _ A43.out).mono ?_); rintro e w' ⟨rfl, ⟨nd, rfl⟩⟩) | (go_at_call 18; (with_reducible refine (fp_Add.calls a0 a1 t204 _ A55.out).mono ?_); rintro e w' ⟨rfl, ⟨nd, rfl⟩⟩) | (go_at_call 22; (with_reducible refine (fp_Mul.calls a0 a1 t205 _ A57.out).mono ?_); rintro e w' ⟨rfl, ⟨nd, rfl⟩⟩))
                          go_ret
                          exact ⟨by first | rfl | (simp [errW_none, errW_some] <;> rfl) | (simp [*, errW_none, errW_some] <;> rfl), by repeat (first | (with_reducible first | exact HB.out | apply below_alloc | apply pw_below_drewN | apply below_drew1) | exact HB.out)⟩
                      · rw [if_neg c56] at H
                        have c56b0 : decide (t204 < 2305843009213693951) = false := decide_eq_false c56
                        clear c56
                        obtain rfl := Option.some.inj H
                        go_wp2_with (first | ((with_reducible refine gate_callee (f := 15) rfl ?_); refine goesL_ (some 112) rfl rfl Tryd.func15 (by kernel_rfl) rfl #[.int .u64 a0] rfl (by (try simp only [List.map_toArray, List.map_cons, List.map_nil]); first | done | rfl | (simp only [List.length_drop, List.length_take]; rfl)) ?_; (with_reducible refine (fp_Inv.calls kj22 a0 t195 (some q199) _ A42.out).mono ?_); rintro e w' ⟨rfl, ⟨nd, rfl⟩⟩; refine ⟨_, rfl, ?_⟩; (try simp only [errW_none, errW_some])) | (go_at_call 22; (with_reducible refine (fp_Mul.calls t169 a1 t198 _ A43.out).mono ?_); rintro e w' ⟨rfl, ⟨nd, rfl⟩⟩) | (go_at_call 18; (with_reducible refine (fp_Add.calls a0 a1 t204 _ A55.out).mono ?_); rintro e w' ⟨rfl, ⟨nd, rfl⟩⟩))
                        go_ret
                        exact ⟨by first | rfl | (simp [errW_none, errW_some] <;> rfl) | (simp [*, errW_none, errW_some] <;> rfl), by repeat (first | (with_reducible first | exact HB.out | apply below_alloc | apply pw_below_drewN | apply below_drew1) | exact HB.out)⟩
                    · rw [if_neg c54] at H
                      have c54b0 : (true == (t168 == 0)) = false := by simpa using c54
                      (try (have c54b1 : decide (true = (t168 == 0)) = false := by simpa using c54))
                      (try (have c54b2 : (true == (t168 == 0)) = false := by simpa using c54))
                      (try (have c54b3 : ¬ (true = (t168 == 0)) := by simpa using c54))
                      clear c54
                      obtain rfl := Option.some.inj H
                      go_wp2_with (first | ((with_reducible refine gate_callee (f := 15) rfl ?_); refine goesL_ (some 112) rfl rfl Tryd.func15 (by kernel_rfl) rfl #[.int .u64 a0] rfl (by (try simp only [List.map_toArray, List.map_cons, List.map_nil]); first | done | rfl | (simp only [List.length_drop, List.length_take]; rfl)) ?_; (with_reducible refine (fp_Inv.calls kj22 a0 t195 (some q199) _ A42.out).mono ?_); rintro e w' ⟨rfl, ⟨nd, rfl⟩⟩; refine ⟨_, rfl, ?_⟩; (try simp only [errW_none, errW_some])) | (go_at_call 22; (with_reducible refine (fp_Mul.calls t169 a1 t198 _ A43.out).mono ?_); rintro e w' ⟨rfl, ⟨nd, rfl⟩⟩))
                      go_ret
                      exact ⟨by first | rfl | (simp [errW_none, errW_some] <;> rfl) | (simp [*, errW_none, errW_some] <;> rfl), by repeat (first | (with_reducible first | exact HB.out | apply below_alloc | apply pw_below_drewN | apply below_drew1) | exact HB.out)⟩
                · rw [if_neg c44] at H
                  have c44b0 : (t198 == t168) = false := beq_eq_false_iff_ne.mpr c44
                  have c44b1 : (t198 != t168) = true := bne_iff_ne.mpr c44
                  obtain rfl := Option.some.inj H
                  go_wp2_with (first | ((with_reducible refine gate_callee (f := 15) rfl ?_); refine goesL_ (some 112) rfl rfl Tryd.func15 (by kernel_rfl) rfl #[.int .u64 a0] rfl (by (try simp only [List.map_toArray, List.map_cons, List.map_nil]); first | done | rfl | (simp only [List.length_drop, List.length_take]; rfl)) ?_; (with_reducible refine (fp_Inv.calls kj22 a0 t195 t196 _ A42.out).mono ?_); rintro e w' ⟨rfl, ⟨nd, rfl⟩⟩; refine ⟨_, rfl, ?_⟩; (try simp only [errW_none, errW_some])) | (go_at_call 22; (with_reducible refine (fp_Mul.calls t169 a1 t198 _ A43.out).mono ?_); rintro e w' ⟨rfl, ⟨nd, rfl⟩⟩))
                  go_ret
                  exact ⟨by first | rfl | (simp [errW_none, errW_some] <;> rfl) | (simp [*, errW_none, errW_some] <;> rfl), by repeat (first | (with_reducible first | exact HB.out | apply below_alloc | apply pw_below_drewN | apply below_drew1) | exact HB.out)⟩
              · have H1 : (if t196.isNone = true then (if (false == (t168 == 0)) = true then ((fp_Mul.f t195 a0).bind fun t208 => (if t208 = 1 then ((fp_Add.f a0 a1).bind fun t209 => (if t209 < 2305843009213693951 then ((fp_Mul.f a0 a1).bind fun t210 => (if t210 < 2305843009213693951 then ((caucuslaw01_sure.f kj22).bind fun t211 => (some t211)) else (some false))) else (some false))) else (some false))) else (some false)) else (if (true == (t168 == 0)) = true then ((fp_Add.f a0 a1).bind fun t212 => (if t212 < 2305843009213693951 then ((fp_Mul.f a0 a1).bind fun t213 => (if t213 < 2305843009213693951 then ((caucuslaw01_sure.f kj22).bind fun t214 => (some t214)) else (some false))) else (some false))) else (some false))) = some r := by rw [if_neg (show ¬ (some q197).isNone = true by simp)] at H; exact H
                clear H
                have H := H1
                clear H1
                try simp only [errW_none, errW_some]
                rcases t196 with _ | q207
                · have H1 : (if (false == (t168 == 0)) = true then ((fp_Mul.f t195 a0).bind fun t208 => (if t208 = 1 then ((fp_Add.f a0 a1).bind fun t209 => (if t209 < 2305843009213693951 then ((fp_Mul.f a0 a1).bind fun t210 => (if t210 < 2305843009213693951 then ((caucuslaw01_sure.f kj22).bind fun t211 => (some t211)) else (some false))) else (some false))) else (some false))) else (some false)) = some r := by rw [if_pos (show (none : Option Int).isNone = true by rfl)] at H; exact H
                  clear H
                  have H := H1
                  clear H1
                  try simp only [errW_none, errW_some]
                  by_cases c61 : (false == (t168 == 0)) = true
                  · rw [if_pos c61] at H
                    have c61b0 : (false == (t168 == 0)) = true := c61
                    (try (have c61b1 : decide (false = (t168 == 0)) = true := by simpa using c61))
                    (try (have c61b2 : (false == (t168 == 0)) = true := by simpa using c61))
                    clear c61
                    replace H := Option.bind_eq_some_iff.mp H
                    obtain ⟨t208, A620, H⟩ := H
                    replace H : (if t208 = 1 then ((fp_Add.f a0 a1).bind fun t209 => (if t209 < 2305843009213693951 then ((fp_Mul.f a0 a1).bind fun t210 => (if t210 < 2305843009213693951 then ((caucuslaw01_sure.f kj22).bind fun t211 => (some t211)) else (some false))) else (some false))) else (some false)) = some r := H
                    have A62 := Aside0.mk A620
                    clear A620
                    by_cases c63 : t208 = 1
                    · rw [if_pos c63] at H
                      have c63b0 : (t208 == 1) = true := beq_iff_eq.mpr c63
                      have c63b1 : (t208 != 1) = false := bne_eq_false_iff_eq.mpr c63
                      clear c63
                      replace H := Option.bind_eq_some_iff.mp H
                      obtain ⟨t209, A640, H⟩ := H
                      replace H : (if t209 < 2305843009213693951 then ((fp_Mul.f a0 a1).bind fun t210 => (if t210 < 2305843009213693951 then ((caucuslaw01_sure.f kj22).bind fun t211 => (some t211)) else (some false))) else (some false)) = some r := H
                      have A64 := Aside0.mk A640
                      clear A640
                      by_cases c65 : t209 < 2305843009213693951
                      · rw [if_pos c65] at H
                        have c65b0 : decide (t209 < 2305843009213693951) = true := decide_eq_true c65
                        clear c65
                        replace H := Option.bind_eq_some_iff.mp H
                        obtain ⟨t210, A660, H⟩ := H
                        replace H : (if t210 < 2305843009213693951 then ((caucuslaw01_sure.f kj22).bind fun t211 => (some t211)) else (some false)) = some r := H
                        have A66 := Aside0.mk A660
                        clear A660
                        by_cases c67 : t210 < 2305843009213693951
                        · rw [if_pos c67] at H
                          have c67b0 : decide (t210 < 2305843009213693951) = true := decide_eq_true c67
                          clear c67
                          replace H := Option.bind_eq_some_iff.mp H
                          obtain ⟨t211, A680, H⟩ := H
                          replace H : (some t211) = some r := H
                          have A68 := Aside0.mk A680
                          clear A680
                          obtain rfl := Option.some.inj H
                          go_wp2_with (first | ((with_reducible refine gate_callee (f := 15) rfl ?_); refine goesL_ (some 112) rfl rfl Tryd.func15 (by kernel_rfl) rfl #[.int .u64 a0] rfl (by (try simp only [List.map_toArray, List.map_cons, List.map_nil]); first | done | rfl | (simp only [List.length_drop, List.length_take]; rfl)) ?_; (with_reducible refine (fp_Inv.calls kj22 a0 t195 none _ A42.out).mono ?_); rintro e w' ⟨rfl, ⟨nd, rfl⟩⟩; refine ⟨_, rfl, ?_⟩; (try simp only [errW_none, errW_some])) | (go_at_call 22; (with_reducible refine (fp_Mul.calls t195 a0 t208 _ A62.out).mono ?_); rintro e w' ⟨rfl, ⟨nd, rfl⟩⟩) | (go_at_call 18; (with_reducible refine (fp_Add.calls a0 a1 t209 _ A64.out).mono ?_); rintro e w' ⟨rfl, ⟨nd, rfl⟩⟩) | (go_at_call 22; (with_reducible refine (fp_Mul.calls a0 a1 t210 _ A66.out).mono ?_); rintro e w' ⟨rfl, ⟨nd, rfl⟩⟩) | (go_at_call 28; (with_reducible refine (caucuslaw01_sure.calls kj22  t211 _ ?side1 A68.out).mono ?_); (case side1 => exact As.LaidG.below HG.out (by repeat (first | (with_reducible first | exact HB.out | apply below_alloc | apply pw_below_drewN | apply below_drew1) | exact HB.out))); rintro e w69 ⟨rfl, hb⟩; have n0_ := Aside0.mk (below_step (by repeat (first | (with_reducible first | exact HB.out | apply below_alloc | apply pw_below_drewN | apply below_drew1) | exact HB.out)) hb); clear HB; have HB := n0_; clear n0_; (try clear hb); (try clear hb2); (try clear hk); (try clear hi)))
                          go_ret
                          exact ⟨by first | rfl | (simp [errW_none, errW_some] <;> rfl) | (simp [*, errW_none, errW_some] <;> rfl), by repeat (first | (with_reducible first | exact HB.out | apply below_alloc | apply pw_below_drewN | apply below_drew1) | exact HB.out)⟩
                        · rw [if_neg c67] at H
                          have c67b0 : decide (t210 < 2305843009213693951) = false := decide_eq_false c67
                          clear c67
                          obtain rfl := Option.some.inj H
                          go_wp2_with (first | ((with_reducible refine gate_callee (f := 15) rfl ?_); refine goesL_ (some 112) rfl rfl Tryd.func15 (by kernel_rfl) rfl #[.int .u64 a0] rfl (by (try simp only [List.map_toArray, List.map_cons, List.map_nil]); first | done | rfl | (simp only [List.length_drop, List.length_take]; rfl)) ?_; (with_reducible refine (fp_Inv.calls kj22 a0 t195 none _ A42.out).mono ?_); rintro e w' ⟨rfl, ⟨nd, rfl⟩⟩; refine ⟨_, rfl, ?_⟩; (try simp only [errW_none, errW_some])) | (go_at_call 22; (with_reducible refine (fp_Mul.calls t195 a0 t208 _ A62.out).mono ?_); rintro e w' ⟨rfl, ⟨nd, rfl⟩⟩) | (go_at_call 18; (with_reducible refine (fp_Add.calls a0 a1 t209 _ A64.out).mono ?_); rintro e w' ⟨rfl, ⟨nd, rfl⟩⟩) | (go_at_call 22; (with_reducible refine (fp_Mul.calls a0 a1 t210 _ A66.out).mono ?_); rintro e w' ⟨rfl, ⟨nd, rfl⟩⟩))
                          go_ret
                          exact ⟨by first | rfl | (simp [errW_none, errW_some] <;> rfl) | (simp [*, errW_none, errW_some] <;> rfl), by repeat (first | (with_reducible first | exact HB.out | apply below_alloc | apply pw_below_drewN | apply below_drew1) | exact HB.out)⟩
                      · rw [if_neg c65] at H
                        have c65b0 : decide (t209 < 2305843009213693951) = false := decide_eq_false c65
                        clear c65
                        obtain rfl := Option.some.inj H
                        go_wp2_with (first | ((with_reducible refine gate_callee (f := 15) rfl ?_); refine goesL_ (some 112) rfl rfl Tryd.func15 (by kernel_rfl) rfl #[.int .u64 a0] rfl (by (try simp only [List.map_toArray, List.map_cons, List.map_nil]); first | done | rfl | (simp only [List.length_drop, List.length_take]; rfl)) ?_; (with_reducible refine (fp_Inv.calls kj22 a0 t195 none _ A42.out).mono ?_); rintro e w' ⟨rfl, ⟨nd, rfl⟩⟩; refine ⟨_, rfl, ?_⟩; (try simp only [errW_none, errW_some])) | (go_at_call 22; (with_reducible refine (fp_Mul.calls t195 a0 t208 _ A62.out).mono ?_); rintro e w' ⟨rfl, ⟨nd, rfl⟩⟩) | (go_at_call 18; (with_reducible refine (fp_Add.calls a0 a1 t209 _ A64.out).mono ?_); rintro e w' ⟨rfl, ⟨nd, rfl⟩⟩))
                        go_ret
                        exact ⟨by first | rfl | (simp [errW_none, errW_some] <;> rfl) | (simp [*, errW_none, errW_some] <;> rfl), by repeat (first | (with_reducible first | exact HB.out | apply below_alloc | apply pw_below_drewN | apply below_drew1) | exact HB.out)⟩
                    · rw [if_neg c63] at H
                      have c63b0 : (t208 == 1) = false := beq_eq_false_iff_ne.mpr c63
                      have c63b1 : (t208 != 1) = true := bne_iff_ne.mpr c63
                      obtain rfl := Option.some.inj H
                      go_wp2_with (first | ((with_reducible refine gate_callee (f := 15) rfl ?_); refine goesL_ (some 112) rfl rfl Tryd.func15 (by kernel_rfl) rfl #[.int .u64 a0] rfl (by (try simp only [List.map_toArray, List.map_cons, List.map_nil]); first | done | rfl | (simp only [List.length_drop, List.length_take]; rfl)) ?_; (with_reducible refine (fp_Inv.calls kj22 a0 t195 none _ A42.out).mono ?_); rintro e w' ⟨rfl, ⟨nd, rfl⟩⟩; refine ⟨_, rfl, ?_⟩; (try simp only [errW_none, errW_some])) | (go_at_call 22; (with_reducible refine (fp_Mul.calls t195 a0 t208 _ A62.out).mono ?_); rintro e w' ⟨rfl, ⟨nd, rfl⟩⟩))
                      go_ret
                      exact ⟨by first | rfl | (simp [errW_none, errW_some] <;> rfl) | (simp [*, errW_none, errW_some] <;> rfl), by repeat (first | (with_reducible first | exact HB.out | apply below_alloc | apply pw_below_drewN | apply below_drew1) | exact HB.out)⟩
                  · rw [if_neg c61] at H
                    have c61b0 : (false == (t168 == 0)) = false := by simpa using c61
                    (try (have c61b1 : decide (false = (t168 == 0)) = false := by simpa using c61))
                    (try (have c61b2 : (false == (t168 == 0)) = false := by simpa using c61))
                    (try (have c61b3 : ¬ (false = (t168 == 0)) := by simpa using c61))
                    clear c61
                    obtain rfl := Option.some.inj H
                    go_wp2_with (first | ((with_reducible refine gate_callee (f := 15) rfl ?_); refine goesL_ (some 112) rfl rfl Tryd.func15 (by kernel_rfl) rfl #[.int .u64 a0] rfl (by (try simp only [List.map_toArray, List.map_cons, List.map_nil]); first | done | rfl | (simp only [List.length_drop, List.length_take]; rfl)) ?_; (with_reducible refine (fp_Inv.calls kj22 a0 t195 none _ A42.out).mono ?_); rintro e w' ⟨rfl, ⟨nd, rfl⟩⟩; refine ⟨_, rfl, ?_⟩; (try simp only [errW_none, errW_some])))
                    go_ret
                    exact ⟨by first | rfl | (simp [errW_none, errW_some] <;> rfl) | (simp [*, errW_none, errW_some] <;> rfl), by repeat (first | (with_reducible first | exact HB.out | apply below_alloc | apply pw_below_drewN | apply below_drew1) | exact HB.out)⟩
                · have H1 : (if (true == (t168 == 0)) = true then ((fp_Add.f a0 a1).bind fun t212 => (if t212 < 2305843009213693951 then ((fp_Mul.f a0 a1).bind fun t213 => (if t213 < 2305843009213693951 then ((caucuslaw01_sure.f kj22).bind fun t214 => (some t214)) else (some false))) else (some false))) else (some false)) = some r := by rw [if_neg (show ¬ (some q207).isNone = true by simp)] at H; exact H
                  clear H
                  have H := H1
                  clear H1
                  try simp only [errW_none, errW_some]
                  by_cases c70 : (true == (t168 == 0)) = true
                  · rw [if_pos c70] at H
                    have c70b0 : (true == (t168 == 0)) = true := c70
                    (try (have c70b1 : decide (true = (t168 == 0)) = true := by simpa using c70))
                    (try (have c70b2 : (true == (t168 == 0)) = true := by simpa using c70))
                    clear c70
                    replace H := Option.bind_eq_some_iff.mp H
                    obtain ⟨t212, A710, H⟩ := H
                    replace H : (if t212 < 2305843009213693951 then ((fp_Mul.f a0 a1).bind fun t213 => (if t213 < 2305843009213693951 then ((caucuslaw01_sure.f kj22).bind fun t214 => (some t214)) else (some false))) else (some false)) = some r := H
                    have A71 := Aside0.mk A710
                    clear A710
                    by_cases c72 : t212 < 2305843009213693951
                    · rw [if_pos c72] at H
                      have c72b0 : decide (t212 < 2305843009213693951) = true := decide_eq_true c72
                      clear c72
                      replace H := Option.bind_eq_some_iff.mp H
                      obtain ⟨t213, A730, H⟩ := H
                      replace H : (if t213 < 2305843009213693951 then ((caucuslaw01_sure.f kj22).bind fun t214 => (some t214)) else (some false)) = some r := H
                      have A73 := Aside0.mk A730
                      clear A730
                      by_cases c74 : t213 < 2305843009213693951
                      · rw [if_pos c74] at H
                        have c74b0 : decide (t213 < 2305843009213693951) = true := decide_eq_true c74
                        clear c74
                        replace H := Option.bind_eq_some_iff.mp H
                        obtain ⟨t214, A750, H⟩ := H
                        replace H : (some t214) = some r := H
                        have A75 := Aside0.mk A750
                        clear A750
                        obtain rfl := Option.some.inj H
                        go_wp2_with (first | ((with_reducible refine gate_callee (f := 15) rfl ?_); refine goesL_ (some 112) rfl rfl Tryd.func15 (by kernel_rfl) rfl #[.int .u64 a0] rfl (by (try simp only [List.map_toArray, List.map_cons, List.map_nil]); first | done | rfl | (simp only [List.length_drop, List.length_take]; rfl)) ?_; (with_reducible refine (fp_Inv.calls kj22 a0 t195 (some q207) _ A42.out).mono ?_); rintro e w' ⟨rfl, ⟨nd, rfl⟩⟩; refine ⟨_, rfl, ?_⟩; (try simp only [errW_none, errW_some])) | (go_at_call 18; (with_reducible refine (fp_Add.calls a0 a1 t212 _ A71.out).mono ?_); rintro e w' ⟨rfl, ⟨nd, rfl⟩⟩) | (go_at_call 22; (with_reducible refine (fp_Mul.calls a0 a1 t213 _ A73.out).mono ?_); rintro e w' ⟨rfl, ⟨nd, rfl⟩⟩) | (go_at_call 28; (with_reducible refine (caucuslaw01_sure.calls kj22  t214 _ ?side1 A75.out).mono ?_); (case side1 => exact As.LaidG.below HG.out (by repeat (first | (with_reducible first | exact HB.out | apply below_alloc | apply pw_below_drewN | apply below_drew1) | exact HB.out))); rintro e w76 ⟨rfl, hb⟩; have n0_ := Aside0.mk (below_step (by repeat (first | (with_reducible first | exact HB.out | apply below_alloc | apply pw_below_drewN | apply below_drew1) | exact HB.out)) hb); clear HB; have HB := n0_; clear n0_; (try clear hb); (try clear hb2); (try clear hk); (try clear hi)))
                        go_ret
                        exact ⟨by first | rfl | (simp [errW_none, errW_some] <;> rfl) | (simp [*, errW_none, errW_some] <;> rfl), by repeat (first | (with_reducible first | exact HB.out | apply below_alloc | apply pw_below_drewN | apply below_drew1) | exact HB.out)⟩
                      · rw [if_neg c74] at H
                        have c74b0 : decide (t213 < 2305843009213693951) = false := decide_eq_false c74
                        clear c74
                        obtain rfl := Option.some.inj H
                        go_wp2_with (first | ((with_reducible refine gate_callee (f := 15) rfl ?_); refine goesL_ (some 112) rfl rfl Tryd.func15 (by kernel_rfl) rfl #[.int .u64 a0] rfl (by (try simp only [List.map_toArray, List.map_cons, List.map_nil]); first | done | rfl | (simp only [List.length_drop, List.length_take]; rfl)) ?_; (with_reducible refine (fp_Inv.calls kj22 a0 t195 (some q207) _ A42.out).mono ?_); rintro e w' ⟨rfl, ⟨nd, rfl⟩⟩; refine ⟨_, rfl, ?_⟩; (try simp only [errW_none, errW_some])) | (go_at_call 18; (with_reducible refine (fp_Add.calls a0 a1 t212 _ A71.out).mono ?_); rintro e w' ⟨rfl, ⟨nd, rfl⟩⟩) | (go_at_call 22; (with_reducible refine (fp_Mul.calls a0 a1 t213 _ A73.out).mono ?_); rintro e w' ⟨rfl, ⟨nd, rfl⟩⟩))
                        go_ret
                        exact ⟨by first | rfl | (simp [errW_none, errW_some] <;> rfl) | (simp [*, errW_none, errW_some] <;> rfl), by repeat (first | (with_reducible first | exact HB.out | apply below_alloc | apply pw_below_drewN | apply below_drew1) | exact HB.out)⟩
                    · rw [if_neg c72] at H
                      have c72b0 : decide (t212 < 2305843009213693951) = false := decide_eq_false c72
                      clear c72
                      obtain rfl := Option.some.inj H
                      go_wp2_with (first | ((with_reducible refine gate_callee (f := 15) rfl ?_); refine goesL_ (some 112) rfl rfl Tryd.func15 (by kernel_rfl) rfl #[.int .u64 a0] rfl (by (try simp only [List.map_toArray, List.map_cons, List.map_nil]); first | done | rfl | (simp only [List.length_drop, List.length_take]; rfl)) ?_; (with_reducible refine (fp_Inv.calls kj22 a0 t195 (some q207) _ A42.out).mono ?_); rintro e w' ⟨rfl, ⟨nd, rfl⟩⟩; refine ⟨_, rfl, ?_⟩; (try simp only [errW_none, errW_some])) | (go_at_call 18; (with_reducible refine (fp_Add.calls a0 a1 t212 _ A71.out).mono ?_); rintro e w' ⟨rfl, ⟨nd, rfl⟩⟩))
                      go_ret
                      exact ⟨by first | rfl | (simp [errW_none, errW_some] <;> rfl) | (simp [*, errW_none, errW_some] <;> rfl), by repeat (first | (with_reducible first | exact HB.out | apply below_alloc | apply pw_below_drewN | apply below_drew1) | exact HB.out)⟩
                  · rw [if_neg c70] at H
                    have c70b0 : (true == (t168 == 0)) = false := by simpa using c70
                    (try (have c70b1 : decide (true = (t168 == 0)) = false := by simpa using c70))
                    (try (have c70b2 : (true == (t168 == 0)) = false := by simpa using c70))
                    (try (have c70b3 : ¬ (true = (t168 == 0)) := by simpa using c70))
                    clear c70
                    obtain rfl := Option.some.inj H
                    go_wp2_with (first | ((with_reducible refine gate_callee (f := 15) rfl ?_); refine goesL_ (some 112) rfl rfl Tryd.func15 (by kernel_rfl) rfl #[.int .u64 a0] rfl (by (try simp only [List.map_toArray, List.map_cons, List.map_nil]); first | done | rfl | (simp only [List.length_drop, List.length_take]; rfl)) ?_; (with_reducible refine (fp_Inv.calls kj22 a0 t195 (some q207) _ A42.out).mono ?_); rintro e w' ⟨rfl, ⟨nd, rfl⟩⟩; refine ⟨_, rfl, ?_⟩; (try simp only [errW_none, errW_some])))
                    go_ret
                    exact ⟨by first | rfl | (simp [errW_none, errW_some] <;> rfl) | (simp [*, errW_none, errW_some] <;> rfl), by repeat (first | (with_reducible first | exact HB.out | apply below_alloc | apply pw_below_drewN | apply below_drew1) | exact HB.out)⟩

/-- THE ONE PURE STATEMENT of caucuslaw01_FpField: yours. -/
def caucuslaw01_FpField.Pure : Prop := ∀ (a0 : Int) (a1 : Int) (a2 : Int), (Lit.int .u64 a0).wf = true → (Lit.int .u64 a1).wf = true → (Lit.int .u64 a2).wf = true → ∃ k, caucuslaw01_FpField.f k a0 a1 a2 = some true
theorem caucuslaw01_FpField.walk (P : caucuslaw01_FpField.Pure) (a0 : Int) (a1 : Int) (a2 : Int) (w : World) (hG : As.LaidG w) (w0 : (Lit.int .u64 a0).wf = true) (w1 : (Lit.int .u64 a1).wf = true) (w2 : (Lit.int .u64 a2).wf = true) :
    Calls Tryd.prog 4 #[.int .u64 a0, .int .u64 a1, .int .u64 a2] w fun e w' => e = .returned (.bool true) ∧ Below w.heap.size w w' := by
  obtain ⟨k, h⟩ := P a0 a1 a2 w0 w1 w2
  refine (caucuslaw01_FpField.calls k a0 a1 a2 true w hG h).mono ?_
  rintro e w' ⟨rfl, hd⟩
  exact ⟨rfl, hd⟩

end Go.Proofs.YtbfgppecpkfcnaaDoor.PFp
