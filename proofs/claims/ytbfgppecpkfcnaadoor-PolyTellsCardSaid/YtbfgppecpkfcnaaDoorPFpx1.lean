-- Written by a changed copy of the kit's print (wip/tools/patch_print.py), out of the translation. Not trusted: Lean checks it.
import Derived.Test.YtbfgppecpkfcnaaDoorPFpx0
namespace Go.Proofs.YtbfgppecpkfcnaaDoor.PFp
open Go.RowKit Go.Proofs.YtbfgppecpkfcnaaDoorW.PrintWords Go.Proofs.YtbfgppecpkfcnaaDoorW.PrintLast Go.Proofs.YtbfgppecpkfcnaaDoorW.PrintMore
attribute [local go_sem] max2_int min2_int max_two min_two max_three min_three max_four min_four   -- for this text's walks alone
set_option linter.unusedVariables false
set_option linter.unusedSimpArgs false

/-! ### fp_Of: function 17 -/
def fp_Of.f (a0 : Int) : Option (Int) := if (IntKind.u64.wrap ((a0 / 2305843009213693952) + (Go.bits .and .u64 a0 2305843009213693951))) ≥ 2305843009213693951 then (some (IntKind.u64.wrap ((IntKind.u64.wrap ((a0 / 2305843009213693952) + (Go.bits .and .u64 a0 2305843009213693951))) - 2305843009213693951))) else (some (IntKind.u64.wrap ((a0 / 2305843009213693952) + (Go.bits .and .u64 a0 2305843009213693951))))
set_option maxHeartbeats 8000000 in
set_option maxRecDepth 100000 in
theorem fp_Of.calls (a0 : Int) (r : Int) (w : World) (h : fp_Of.f a0 = some r) :
    Calls Tryd.prog 17 #[.int .u64 a0] w fun e w' => e = .returned (.int .u64 r) ∧ Drawn0 w w' := by
  have H : (if (IntKind.u64.wrap ((a0 / 2305843009213693952) + (Go.bits .and .u64 a0 2305843009213693951))) ≥ 2305843009213693951 then (some (IntKind.u64.wrap ((IntKind.u64.wrap ((a0 / 2305843009213693952) + (Go.bits .and .u64 a0 2305843009213693951))) - 2305843009213693951))) else (some (IntKind.u64.wrap ((a0 / 2305843009213693952) + (Go.bits .and .u64 a0 2305843009213693951))))) = some r := h
  clear h
  by_cases c2 : (IntKind.u64.wrap ((a0 / 2305843009213693952) + (Go.bits .and .u64 a0 2305843009213693951))) ≥ 2305843009213693951
  · rw [if_pos c2] at H
    have c2b0 : decide (2305843009213693951 ≤ (IntKind.u64.wrap ((a0 / 2305843009213693952) + (Go.bits .and .u64 a0 2305843009213693951)))) = true := decide_eq_true c2
    clear c2
    obtain rfl := Option.some.inj H
    go_enter Tryd.func17, Tryd.ntmps17
    go_wp2
    go_ret
    exact ⟨by first | rfl | (simp; done) | (simp [*]; done), by repeat (first | exact Drawn0.refl _ | apply Drawn0.step)⟩
  · rw [if_neg c2] at H
    have c2b0 : decide (2305843009213693951 ≤ (IntKind.u64.wrap ((a0 / 2305843009213693952) + (Go.bits .and .u64 a0 2305843009213693951)))) = false := decide_eq_false c2
    clear c2
    obtain rfl := Option.some.inj H
    go_enter Tryd.func17, Tryd.ntmps17
    go_wp2
    go_ret
    exact ⟨by first | rfl | (simp; done) | (simp [*]; done), by repeat (first | exact Drawn0.refl _ | apply Drawn0.step)⟩

/-! ### fp_Add: function 18 -/
def fp_Add.f (a0 : Int) (a1 : Int) : Option (Int) := (fp_Of.f a0).bind fun t101 => ((fp_Of.f a1).bind fun t102 => ((fp_Of.f (IntKind.u64.wrap (t101 + t102))).bind fun t103 => (some t103)))
set_option maxHeartbeats 8000000 in
set_option maxRecDepth 100000 in
theorem fp_Add.calls (a0 : Int) (a1 : Int) (r : Int) (w : World) (h : fp_Add.f a0 a1 = some r) :
    Calls Tryd.prog 18 #[.int .u64 a0, .int .u64 a1] w fun e w' => e = .returned (.int .u64 r) ∧ Drawn0 w w' := by
  have H : ((fp_Of.f a0).bind fun t101 => ((fp_Of.f a1).bind fun t102 => ((fp_Of.f (IntKind.u64.wrap (t101 + t102))).bind fun t103 => (some t103)))) = some r := h
  clear h
  replace H := Option.bind_eq_some_iff.mp H
  obtain ⟨t101, A30, H⟩ := H
  replace H : ((fp_Of.f a1).bind fun t102 => ((fp_Of.f (IntKind.u64.wrap (t101 + t102))).bind fun t103 => (some t103))) = some r := H
  have A3 := Aside0.mk A30
  clear A30
  replace H := Option.bind_eq_some_iff.mp H
  obtain ⟨t102, A40, H⟩ := H
  replace H : ((fp_Of.f (IntKind.u64.wrap (t101 + t102))).bind fun t103 => (some t103)) = some r := H
  have A4 := Aside0.mk A40
  clear A40
  replace H := Option.bind_eq_some_iff.mp H
  obtain ⟨t103, A50, H⟩ := H
  replace H : (some t103) = some r := H
  have A5 := Aside0.mk A50
  clear A50
  obtain rfl := Option.some.inj H
  go_enter Tryd.func18, Tryd.ntmps18
  go_wp2_with (first | ((with_reducible refine gate_callee (f := 17) rfl ?_); refine goesL_ (some 6) rfl rfl Tryd.func17 (by kernel_rfl) rfl #[.int .u64 a0] rfl (by (try simp only [List.map_toArray, List.map_cons, List.map_nil]); first | done | rfl | (simp only [List.length_drop, List.length_take]; rfl)) ?_; (with_reducible refine (fp_Of.calls a0 t101 _ A3.out).mono ?_); rintro e w' ⟨rfl, ⟨nd, rfl⟩⟩; refine ⟨_, rfl, ?_⟩) | ((with_reducible refine gate_callee (f := 17) rfl ?_); refine goesL_ (some 8) rfl rfl Tryd.func17 (by kernel_rfl) rfl #[.int .u64 a1] rfl (by (try simp only [List.map_toArray, List.map_cons, List.map_nil]); first | done | rfl | (simp only [List.length_drop, List.length_take]; rfl)) ?_; (with_reducible refine (fp_Of.calls a1 t102 _ A4.out).mono ?_); rintro e w' ⟨rfl, ⟨nd, rfl⟩⟩; refine ⟨_, rfl, ?_⟩) | ((with_reducible refine gate_callee (f := 17) rfl ?_); refine goesL_ (some 10) rfl rfl Tryd.func17 (by kernel_rfl) rfl #[.int .u64 (IntKind.u64.wrap (t101 + t102))] rfl (by (try simp only [List.map_toArray, List.map_cons, List.map_nil]); first | done | rfl | (simp only [List.length_drop, List.length_take]; rfl)) ?_; (with_reducible refine (fp_Of.calls (IntKind.u64.wrap (t101 + t102)) t103 _ A5.out).mono ?_); rintro e w' ⟨rfl, ⟨nd, rfl⟩⟩; refine ⟨_, rfl, ?_⟩))
  go_ret
  exact ⟨by first | rfl | (simp; done) | (simp [*]; done), by repeat (first | exact Drawn0.refl _ | apply Drawn0.step)⟩

/-! ### fp_shifted: function 62 -/
def fp_shifted.f (a0 : Int) : Option (Int) := (fp_Of.f (IntKind.u64.wrap ((a0 / 536870912) + (IntKind.u64.wrap ((Go.bits .and .u64 a0 536870911) * 4294967296))))).bind fun t104 => (some t104)
set_option maxHeartbeats 8000000 in
set_option maxRecDepth 100000 in
theorem fp_shifted.calls (a0 : Int) (r : Int) (w : World) (h : fp_shifted.f a0 = some r) :
    Calls Tryd.prog 62 #[.int .u64 a0] w fun e w' => e = .returned (.int .u64 r) ∧ Drawn0 w w' := by
  have H : ((fp_Of.f (IntKind.u64.wrap ((a0 / 536870912) + (IntKind.u64.wrap ((Go.bits .and .u64 a0 536870911) * 4294967296))))).bind fun t104 => (some t104)) = some r := h
  clear h
  replace H := Option.bind_eq_some_iff.mp H
  obtain ⟨t104, A20, H⟩ := H
  replace H : (some t104) = some r := H
  have A2 := Aside0.mk A20
  clear A20
  obtain rfl := Option.some.inj H
  go_enter Tryd.func62, Tryd.ntmps62
  go_wp2_with (first | ((with_reducible refine gate_callee (f := 17) rfl ?_); refine goesL_ (some 11) rfl rfl Tryd.func17 (by kernel_rfl) rfl #[.int .u64 (IntKind.u64.wrap ((a0 / 536870912) + (IntKind.u64.wrap ((Go.bits .and .u64 a0 536870911) * 4294967296))))] rfl (by (try simp only [List.map_toArray, List.map_cons, List.map_nil]); first | done | rfl | (simp only [List.length_drop, List.length_take]; rfl)) ?_; (with_reducible refine (fp_Of.calls (IntKind.u64.wrap ((a0 / 536870912) + (IntKind.u64.wrap ((Go.bits .and .u64 a0 536870911) * 4294967296)))) t104 _ A2.out).mono ?_); rintro e w' ⟨rfl, ⟨nd, rfl⟩⟩; refine ⟨_, rfl, ?_⟩))
  go_ret
  exact ⟨by first | rfl | (simp; done) | (simp [*]; done), by repeat (first | exact Drawn0.refl _ | apply Drawn0.step)⟩

/-! ### fp_Mul: function 22 -/
def fp_Mul.f (a0 : Int) (a1 : Int) : Option (Int) := (fp_Of.f a0).bind fun t105 => ((fp_Of.f a1).bind fun t106 => ((fp_Of.f (IntKind.u64.wrap ((IntKind.u64.wrap ((t105 / 4294967296) * (t106 / 4294967296))) * 8))).bind fun t107 => ((fp_Of.f (IntKind.u64.wrap ((t105 / 4294967296) * (Go.bits .and .u64 t106 4294967295)))).bind fun t108 => ((fp_Of.f (IntKind.u64.wrap ((Go.bits .and .u64 t105 4294967295) * (t106 / 4294967296)))).bind fun t109 => ((fp_Of.f (IntKind.u64.wrap (t108 + t109))).bind fun t110 => ((fp_shifted.f t110).bind fun t111 => ((fp_Add.f t107 t111).bind fun t112 => ((fp_Of.f (IntKind.u64.wrap ((Go.bits .and .u64 t105 4294967295) * (Go.bits .and .u64 t106 4294967295)))).bind fun t113 => ((fp_Add.f t112 t113).bind fun t114 => (some t114))))))))))
set_option maxHeartbeats 8000000 in
set_option maxRecDepth 100000 in
theorem fp_Mul.calls (a0 : Int) (a1 : Int) (r : Int) (w : World) (h : fp_Mul.f a0 a1 = some r) :
    Calls Tryd.prog 22 #[.int .u64 a0, .int .u64 a1] w fun e w' => e = .returned (.int .u64 r) ∧ Drawn0 w w' := by
  have H : ((fp_Of.f a0).bind fun t105 => ((fp_Of.f a1).bind fun t106 => ((fp_Of.f (IntKind.u64.wrap ((IntKind.u64.wrap ((t105 / 4294967296) * (t106 / 4294967296))) * 8))).bind fun t107 => ((fp_Of.f (IntKind.u64.wrap ((t105 / 4294967296) * (Go.bits .and .u64 t106 4294967295)))).bind fun t108 => ((fp_Of.f (IntKind.u64.wrap ((Go.bits .and .u64 t105 4294967295) * (t106 / 4294967296)))).bind fun t109 => ((fp_Of.f (IntKind.u64.wrap (t108 + t109))).bind fun t110 => ((fp_shifted.f t110).bind fun t111 => ((fp_Add.f t107 t111).bind fun t112 => ((fp_Of.f (IntKind.u64.wrap ((Go.bits .and .u64 t105 4294967295) * (Go.bits .and .u64 t106 4294967295)))).bind fun t113 => ((fp_Add.f t112 t113).bind fun t114 => (some t114))))))))))) = some r := h
  clear h
  replace H := Option.bind_eq_some_iff.mp H
  obtain ⟨t105, A30, H⟩ := H
  replace H : ((fp_Of.f a1).bind fun t106 => ((fp_Of.f (IntKind.u64.wrap ((IntKind.u64.wrap ((t105 / 4294967296) * (t106 / 4294967296))) * 8))).bind fun t107 => ((fp_Of.f (IntKind.u64.wrap ((t105 / 4294967296) * (Go.bits .and .u64 t106 4294967295)))).bind fun t108 => ((fp_Of.f (IntKind.u64.wrap ((Go.bits .and .u64 t105 4294967295) * (t106 / 4294967296)))).bind fun t109 => ((fp_Of.f (IntKind.u64.wrap (t108 + t109))).bind fun t110 => ((fp_shifted.f t110).bind fun t111 => ((fp_Add.f t107 t111).bind fun t112 => ((fp_Of.f (IntKind.u64.wrap ((Go.bits .and .u64 t105 4294967295) * (Go.bits .and .u64 t106 4294967295)))).bind fun t113 => ((fp_Add.f t112 t113).bind fun t114 => (some t114)))))))))) = some r := H
  have A3 := Aside0.mk A30
  clear A30
  replace H := Option.bind_eq_some_iff.mp H
  obtain ⟨t106, A40, H⟩ := H
  replace H : ((fp_Of.f (IntKind.u64.wrap ((IntKind.u64.wrap ((t105 / 4294967296) * (t106 / 4294967296))) * 8))).bind fun t107 => ((fp_Of.f (IntKind.u64.wrap ((t105 / 4294967296) * (Go.bits .and .u64 t106 4294967295)))).bind fun t108 => ((fp_Of.f (IntKind.u64.wrap ((Go.bits .and .u64 t105 4294967295) * (t106 / 4294967296)))).bind fun t109 => ((fp_Of.f (IntKind.u64.wrap (t108 + t109))).bind fun t110 => ((fp_shifted.f t110).bind fun t111 => ((fp_Add.f t107 t111).bind fun t112 => ((fp_Of.f (IntKind.u64.wrap ((Go.bits .and .u64 t105 4294967295) * (Go.bits .and .u64 t106 4294967295)))).bind fun t113 => ((fp_Add.f t112 t113).bind fun t114 => (some t114))))))))) = some r := H
  have A4 := Aside0.mk A40
  clear A40
  replace H := Option.bind_eq_some_iff.mp H
  obtain ⟨t107, A50, H⟩ := H
  replace H : ((fp_Of.f (IntKind.u64.wrap ((t105 / 4294967296) * (Go.bits .and .u64 t106 4294967295)))).bind fun t108 => ((fp_Of.f (IntKind.u64.wrap ((Go.bits .and .u64 t105 4294967295) * (t106 / 4294967296)))).bind fun t109 => ((fp_Of.f (IntKind.u64.wrap (t108 + t109))).bind fun t110 => ((fp_shifted.f t110).bind fun t111 => ((fp_Add.f t107 t111).bind fun t112 => ((fp_Of.f (IntKind.u64.wrap ((Go.bits .and .u64 t105 4294967295) * (Go.bits .and .u64 t106 4294967295)))).bind fun t113 => ((fp_Add.f t112 t113).bind fun t114 => (some t114)))))))) = some r := H
  have A5 := Aside0.mk A50
  clear A50
  replace H := Option.bind_eq_some_iff.mp H
  obtain ⟨t108, A60, H⟩ := H
  replace H : ((fp_Of.f (IntKind.u64.wrap ((Go.bits .and .u64 t105 4294967295) * (t106 / 4294967296)))).bind fun t109 => ((fp_Of.f (IntKind.u64.wrap (t108 + t109))).bind fun t110 => ((fp_shifted.f t110).bind fun t111 => ((fp_Add.f t107 t111).bind fun t112 => ((fp_Of.f (IntKind.u64.wrap ((Go.bits .and .u64 t105 4294967295) * (Go.bits .and .u64 t106 4294967295)))).bind fun t113 => ((fp_Add.f t112 t113).bind fun t114 => (some t114))))))) = some r := H
  have A6 := Aside0.mk A60
  clear A60
  replace H := Option.bind_eq_some_iff.mp H
  obtain ⟨t109, A70, H⟩ := H
  replace H : ((fp_Of.f (IntKind.u64.wrap (t108 + t109))).bind fun t110 => ((fp_shifted.f t110).bind fun t111 => ((fp_Add.f t107 t111).bind fun t112 => ((fp_Of.f (IntKind.u64.wrap ((Go.bits .and .u64 t105 4294967295) * (Go.bits .and .u64 t106 4294967295)))).bind fun t113 => ((fp_Add.f t112 t113).bind fun t114 => (some t114)))))) = some r := H
  have A7 := Aside0.mk A70
  clear A70
  replace H := Option.bind_eq_some_iff.mp H
  obtain ⟨t110, A80, H⟩ := H
  replace H : ((fp_shifted.f t110).bind fun t111 => ((fp_Add.f t107 t111).bind fun t112 => ((fp_Of.f (IntKind.u64.wrap ((Go.bits .and .u64 t105 4294967295) * (Go.bits .and .u64 t106 4294967295)))).bind fun t113 => ((fp_Add.f t112 t113).bind fun t114 => (some t114))))) = some r := H
  have A8 := Aside0.mk A80
  clear A80
  replace H := Option.bind_eq_some_iff.mp H
  obtain ⟨t111, A90, H⟩ := H
  replace H : ((fp_Add.f t107 t111).bind fun t112 => ((fp_Of.f (IntKind.u64.wrap ((Go.bits .and .u64 t105 4294967295) * (Go.bits .and .u64 t106 4294967295)))).bind fun t113 => ((fp_Add.f t112 t113).bind fun t114 => (some t114)))) = some r := H
  have A9 := Aside0.mk A90
  clear A90
  replace H := Option.bind_eq_some_iff.mp H
  obtain ⟨t112, A100, H⟩ := H
  replace H : ((fp_Of.f (IntKind.u64.wrap ((Go.bits .and .u64 t105 4294967295) * (Go.bits .and .u64 t106 4294967295)))).bind fun t113 => ((fp_Add.f t112 t113).bind fun t114 => (some t114))) = some r := H
  have A10 := Aside0.mk A100
  clear A100
  replace H := Option.bind_eq_some_iff.mp H
  obtain ⟨t113, A110, H⟩ := H
  replace H : ((fp_Add.f t112 t113).bind fun t114 => (some t114)) = some r := H
  have A11 := Aside0.mk A110
  clear A110
  replace H := Option.bind_eq_some_iff.mp H
  obtain ⟨t114, A120, H⟩ := H
  replace H : (some t114) = some r := H
  have A12 := Aside0.mk A120
  clear A120
  obtain rfl := Option.some.inj H
  go_enter Tryd.func22, Tryd.ntmps22
  go_wp2_with (first | ((with_reducible refine gate_callee (f := 17) rfl ?_); refine goesL_ (some 11) rfl rfl Tryd.func17 (by kernel_rfl) rfl #[.int .u64 a0] rfl (by (try simp only [List.map_toArray, List.map_cons, List.map_nil]); first | done | rfl | (simp only [List.length_drop, List.length_take]; rfl)) ?_; (with_reducible refine (fp_Of.calls a0 t105 _ A3.out).mono ?_); rintro e w' ⟨rfl, ⟨nd, rfl⟩⟩; refine ⟨_, rfl, ?_⟩) | ((with_reducible refine gate_callee (f := 17) rfl ?_); refine goesL_ (some 13) rfl rfl Tryd.func17 (by kernel_rfl) rfl #[.int .u64 a1] rfl (by (try simp only [List.map_toArray, List.map_cons, List.map_nil]); first | done | rfl | (simp only [List.length_drop, List.length_take]; rfl)) ?_; (with_reducible refine (fp_Of.calls a1 t106 _ A4.out).mono ?_); rintro e w' ⟨rfl, ⟨nd, rfl⟩⟩; refine ⟨_, rfl, ?_⟩) | ((with_reducible refine gate_callee (f := 17) rfl ?_); refine goesL_ (some 26) rfl rfl Tryd.func17 (by kernel_rfl) rfl #[.int .u64 (IntKind.u64.wrap ((IntKind.u64.wrap ((t105 / 4294967296) * (t106 / 4294967296))) * 8))] rfl (by (try simp only [List.map_toArray, List.map_cons, List.map_nil]); first | done | rfl | (simp only [List.length_drop, List.length_take]; rfl)) ?_; (with_reducible refine (fp_Of.calls (IntKind.u64.wrap ((IntKind.u64.wrap ((t105 / 4294967296) * (t106 / 4294967296))) * 8)) t107 _ A5.out).mono ?_); rintro e w' ⟨rfl, ⟨nd, rfl⟩⟩; refine ⟨_, rfl, ?_⟩) | ((with_reducible refine gate_callee (f := 17) rfl ?_); refine goesL_ (some 31) rfl rfl Tryd.func17 (by kernel_rfl) rfl #[.int .u64 (IntKind.u64.wrap ((t105 / 4294967296) * (Go.bits .and .u64 t106 4294967295)))] rfl (by (try simp only [List.map_toArray, List.map_cons, List.map_nil]); first | done | rfl | (simp only [List.length_drop, List.length_take]; rfl)) ?_; (with_reducible refine (fp_Of.calls (IntKind.u64.wrap ((t105 / 4294967296) * (Go.bits .and .u64 t106 4294967295))) t108 _ A6.out).mono ?_); rintro e w' ⟨rfl, ⟨nd, rfl⟩⟩; refine ⟨_, rfl, ?_⟩) | ((with_reducible refine gate_callee (f := 17) rfl ?_); refine goesL_ (some 35) rfl rfl Tryd.func17 (by kernel_rfl) rfl #[.int .u64 (IntKind.u64.wrap ((Go.bits .and .u64 t105 4294967295) * (t106 / 4294967296)))] rfl (by (try simp only [List.map_toArray, List.map_cons, List.map_nil]); first | done | rfl | (simp only [List.length_drop, List.length_take]; rfl)) ?_; (with_reducible refine (fp_Of.calls (IntKind.u64.wrap ((Go.bits .and .u64 t105 4294967295) * (t106 / 4294967296))) t109 _ A7.out).mono ?_); rintro e w' ⟨rfl, ⟨nd, rfl⟩⟩; refine ⟨_, rfl, ?_⟩) | ((with_reducible refine gate_callee (f := 17) rfl ?_); refine goesL_ (some 37) rfl rfl Tryd.func17 (by kernel_rfl) rfl #[.int .u64 (IntKind.u64.wrap (t108 + t109))] rfl (by (try simp only [List.map_toArray, List.map_cons, List.map_nil]); first | done | rfl | (simp only [List.length_drop, List.length_take]; rfl)) ?_; (with_reducible refine (fp_Of.calls (IntKind.u64.wrap (t108 + t109)) t110 _ A8.out).mono ?_); rintro e w' ⟨rfl, ⟨nd, rfl⟩⟩; refine ⟨_, rfl, ?_⟩) | ((with_reducible refine gate_callee (f := 62) rfl ?_); refine goesL_ (some 38) rfl rfl Tryd.func62 (by kernel_rfl) rfl #[.int .u64 t110] rfl (by (try simp only [List.map_toArray, List.map_cons, List.map_nil]); first | done | rfl | (simp only [List.length_drop, List.length_take]; rfl)) ?_; (with_reducible refine (fp_shifted.calls t110 t111 _ A9.out).mono ?_); rintro e w' ⟨rfl, ⟨nd, rfl⟩⟩; refine ⟨_, rfl, ?_⟩) | ((with_reducible refine gate_callee (f := 18) rfl ?_); refine goesL_ (some 39) rfl rfl Tryd.func18 (by kernel_rfl) rfl #[.int .u64 t107, .int .u64 t111] rfl (by (try simp only [List.map_toArray, List.map_cons, List.map_nil]); first | done | rfl | (simp only [List.length_drop, List.length_take]; rfl)) ?_; (with_reducible refine (fp_Add.calls t107 t111 t112 _ A10.out).mono ?_); rintro e w' ⟨rfl, ⟨nd, rfl⟩⟩; refine ⟨_, rfl, ?_⟩) | ((with_reducible refine gate_callee (f := 17) rfl ?_); refine goesL_ (some 44) rfl rfl Tryd.func17 (by kernel_rfl) rfl #[.int .u64 (IntKind.u64.wrap ((Go.bits .and .u64 t105 4294967295) * (Go.bits .and .u64 t106 4294967295)))] rfl (by (try simp only [List.map_toArray, List.map_cons, List.map_nil]); first | done | rfl | (simp only [List.length_drop, List.length_take]; rfl)) ?_; (with_reducible refine (fp_Of.calls (IntKind.u64.wrap ((Go.bits .and .u64 t105 4294967295) * (Go.bits .and .u64 t106 4294967295))) t113 _ A11.out).mono ?_); rintro e w' ⟨rfl, ⟨nd, rfl⟩⟩; refine ⟨_, rfl, ?_⟩) | ((with_reducible refine gate_callee (f := 18) rfl ?_); refine goesL_ (some 45) rfl rfl Tryd.func18 (by kernel_rfl) rfl #[.int .u64 t112, .int .u64 t113] rfl (by (try simp only [List.map_toArray, List.map_cons, List.map_nil]); first | done | rfl | (simp only [List.length_drop, List.length_take]; rfl)) ?_; (with_reducible refine (fp_Add.calls t112 t113 t114 _ A12.out).mono ?_); rintro e w' ⟨rfl, ⟨nd, rfl⟩⟩; refine ⟨_, rfl, ?_⟩))
  go_ret
  exact ⟨by first | rfl | (simp; done) | (simp [*]; done), by repeat (first | exact Drawn0.refl _ | apply Drawn0.step)⟩

/-! ### fp_Pow: function 24 -/
def fp_Pow.l0 : Nat → Int → Int → Int → Option (Int)
  | 0, _, _, _ => none
  | k + 1, x0, x1, x5 => if x1 > 0 then (if (Go.bits .and .u64 x1 1) = 1 then ((fp_Mul.f x5 x0).bind fun t116 => ((fp_Mul.f x0 x0).bind fun t117 => (fp_Pow.l0 k t117 (x1 / 2) t116))) else ((fp_Mul.f x0 x0).bind fun t118 => (fp_Pow.l0 k t118 (x1 / 2) x5))) else (some x5)
def fp_Pow.f (k : Nat) (a0 : Int) (a1 : Int) : Option (Int) := (fp_Of.f a0).bind fun t115 => (fp_Pow.l0 k t115 a1 1)
theorem fp_Pow.mono_l : ∀ k, (∀ y0 y1 y2, LeO (fp_Pow.l0 k y0 y1 y2) (fp_Pow.l0 (k + 1) y0 y1 y2))
  | 0 => fun _ _ _ r h => by simp [fp_Pow.l0] at h
  | k + 1 => by
    have ih0 := fp_Pow.mono_l k
    · intro y0 y1 y2
      unfold fp_Pow.l0
      repeat' first
      | (with_reducible exact ih0 _ _ _)
      | (with_reducible exact LeO.refl _)
      | (with_reducible exact LeO.none _)
      | (with_reducible refine LeO.ite ?_ ?_)
      | (with_reducible refine LeO.bind ?_ (fun _ => ?_))
      | exact ih0 _ _ _
      | exact LeO.none _
      | refine LeO.ite ?_ ?_
      | refine LeO.bind ?_ (fun _ => ?_)
theorem fp_Pow.mono : ∀ a0 a1 k, LeO (fp_Pow.f k a0 a1) (fp_Pow.f (k + 1) a0 a1) := by
  intro a0 a1 k
  have ih0 := fp_Pow.mono_l k
  unfold fp_Pow.f
  repeat' first
      | (with_reducible exact ih0 _ _ _)
      | (with_reducible exact LeO.refl _)
      | (with_reducible exact LeO.none _)
      | (with_reducible refine LeO.ite ?_ ?_)
      | (with_reducible refine LeO.bind ?_ (fun _ => ?_))
      | exact ih0 _ _ _
      | exact LeO.none _
      | refine LeO.ite ?_ ?_
      | refine LeO.bind ?_ (fun _ => ?_)
set_option maxHeartbeats 8000000 in
set_option maxRecDepth 100000 in
theorem fp_Pow.calls (k : Nat) (a0 : Int) (a1 : Int) (r : Int) (w : World) (h : fp_Pow.f k a0 a1 = some r) :
    Calls Tryd.prog 24 #[.int .u64 a0, .int .u64 a1] w fun e w' => e = .returned (.int .u64 r) ∧ Drawn0 w w' := by
  have H : ((fp_Of.f a0).bind fun t115 => (fp_Pow.l0 k t115 a1 1)) = some r := h
  clear h
  replace H := Option.bind_eq_some_iff.mp H
  obtain ⟨t115, A30, H⟩ := H
  replace H : (fp_Pow.l0 k t115 a1 1) = some r := H
  have A3 := Aside0.mk A30
  clear A30
  have H' := Aside0.mk H
  clear H
  go_enter Tryd.func24, Tryd.ntmps24
  go_wp2_with (first | ((with_reducible refine gate_callee (f := 17) rfl ?_); refine goesL_ (some 7) rfl rfl Tryd.func17 (by kernel_rfl) rfl #[.int .u64 a0] rfl (by (try simp only [List.map_toArray, List.map_cons, List.map_nil]); first | done | rfl | (simp only [List.length_drop, List.length_take]; rfl)) ?_; (with_reducible refine (fp_Of.calls a0 t115 _ A3.out).mono ?_); rintro e w' ⟨rfl, ⟨nd, rfl⟩⟩; refine ⟨_, rfl, ?_⟩))
  go_loopg [0, 1, 5] k (fun kq v0 v1 v5 w' => ∃ (x0_1 : Int) (x1_1 : Int) (x5_1 : Int), v0 = .int .u64 x0_1 ∧ v1 = .int .u64 x1_1 ∧ v5 = .int .u64 x5_1 ∧ Aside0 (fp_Pow.l0 kq x0_1 x1_1 x5_1 = some r) ∧ Aside0 (kq ≤ k) ∧ Drawn0 w w')
  case atStart => exact ⟨(t115), (a1), (1), (by first | rfl | (simp; done) | (simp [*]; done)), (by first | rfl | (simp; done) | (simp [*]; done)), (by first | rfl | (simp; done) | (simp [*]; done)), H', ⟨Nat.le_refl _⟩, by repeat (first | exact Drawn0.refl _ | apply Drawn0.step)⟩
  case round =>
    clear H'
    try clear c1
    try clear c2
    try clear p2
    obtain ⟨x0_1, x1_1, x5_1, rfl, rfl, rfl, HA, HK1, ⟨m1, rfl⟩⟩ := hrel
    cases gk with
    | zero => exact absurd HA.out (by simp [fp_Pow.l0])
    | succ k1 =>
      have H := HA.out
      clear HA
      simp only [fp_Pow.l0] at H
      by_cases c4 : x1_1 > 0
      · rw [if_pos c4] at H
        have c4b0 : decide (0 < x1_1) = true := decide_eq_true c4
        clear c4
        by_cases c5 : (Go.bits .and .u64 x1_1 1) = 1
        · rw [if_pos c5] at H
          have c5b0 : ((Go.bits .and .u64 x1_1 1) == 1) = true := beq_iff_eq.mpr c5
          have c5b1 : ((Go.bits .and .u64 x1_1 1) != 1) = false := bne_eq_false_iff_eq.mpr c5
          clear c5
          replace H := Option.bind_eq_some_iff.mp H
          obtain ⟨t116, A60, H⟩ := H
          replace H : ((fp_Mul.f x0_1 x0_1).bind fun t117 => (fp_Pow.l0 k1 t117 (x1_1 / 2) t116)) = some r := H
          have A6 := Aside0.mk A60
          clear A60
          replace H := Option.bind_eq_some_iff.mp H
          obtain ⟨t117, A70, H⟩ := H
          replace H : (fp_Pow.l0 k1 t117 (x1_1 / 2) t116) = some r := H
          have A7 := Aside0.mk A70
          clear A70
          have H' := Aside0.mk H
          clear H
          go_wp2_with (first | ((with_reducible refine gate_callee (f := 22) rfl ?_); refine goesL_ (some 17) rfl rfl Tryd.func22 (by kernel_rfl) rfl #[.int .u64 x5_1, .int .u64 x0_1] rfl (by (try simp only [List.map_toArray, List.map_cons, List.map_nil]); first | done | rfl | (simp only [List.length_drop, List.length_take]; rfl)) ?_; (with_reducible refine (fp_Mul.calls x5_1 x0_1 t116 _ A6.out).mono ?_); rintro e w' ⟨rfl, ⟨nd, rfl⟩⟩; refine ⟨_, rfl, ?_⟩) | ((with_reducible refine gate_callee (f := 22) rfl ?_); refine goesL_ (some 20) rfl rfl Tryd.func22 (by kernel_rfl) rfl #[.int .u64 x0_1, .int .u64 x0_1] rfl (by (try simp only [List.map_toArray, List.map_cons, List.map_nil]); first | done | rfl | (simp only [List.length_drop, List.length_take]; rfl)) ?_; (with_reducible refine (fp_Mul.calls x0_1 x0_1 t117 _ A7.out).mono ?_); rintro e w' ⟨rfl, ⟨nd, rfl⟩⟩; refine ⟨_, rfl, ?_⟩))
          go_roundg k1
          case measure => have := HK1.out; omega
          case rel => exact ⟨(t117), (x1_1 / 2), (t116), (by first | rfl | (simp; done) | (simp [*]; done)), (by first | rfl | (simp; done) | (simp [*]; done)), (by first | rfl | (simp; done) | (simp [*]; done)), H', ⟨by have := HK1.out; omega⟩, by repeat (first | exact Drawn0.refl _ | apply Drawn0.step)⟩
        · rw [if_neg c5] at H
          have c5b0 : ((Go.bits .and .u64 x1_1 1) == 1) = false := beq_eq_false_iff_ne.mpr c5
          have c5b1 : ((Go.bits .and .u64 x1_1 1) != 1) = true := bne_iff_ne.mpr c5
          replace H := Option.bind_eq_some_iff.mp H
          obtain ⟨t118, A80, H⟩ := H
          replace H : (fp_Pow.l0 k1 t118 (x1_1 / 2) x5_1) = some r := H
          have A8 := Aside0.mk A80
          clear A80
          have H' := Aside0.mk H
          clear H
          go_wp2_with (first | ((with_reducible refine gate_callee (f := 22) rfl ?_); refine goesL_ (some 20) rfl rfl Tryd.func22 (by kernel_rfl) rfl #[.int .u64 x0_1, .int .u64 x0_1] rfl (by (try simp only [List.map_toArray, List.map_cons, List.map_nil]); first | done | rfl | (simp only [List.length_drop, List.length_take]; rfl)) ?_; (with_reducible refine (fp_Mul.calls x0_1 x0_1 t118 _ A8.out).mono ?_); rintro e w' ⟨rfl, ⟨nd, rfl⟩⟩; refine ⟨_, rfl, ?_⟩))
          go_roundg k1
          case measure => have := HK1.out; omega
          case rel => exact ⟨(t118), (x1_1 / 2), (x5_1), (by first | rfl | (simp; done) | (simp [*]; done)), (by first | rfl | (simp; done) | (simp [*]; done)), (by first | rfl | (simp; done) | (simp [*]; done)), H', ⟨by have := HK1.out; omega⟩, by repeat (first | exact Drawn0.refl _ | apply Drawn0.step)⟩
      · rw [if_neg c4] at H
        have c4b0 : decide (0 < x1_1) = false := decide_eq_false c4
        clear c4
        obtain rfl := Option.some.inj H
        go_wp2
        go_ret
        exact ⟨by first | rfl | (simp; done) | (simp [*]; done), by repeat (first | exact Drawn0.refl _ | apply Drawn0.step)⟩

/-! ### fp_Inv: function 15 -/
def fp_Inv.f (k : Nat) (a0 : Int) : Option (Int × Option Int) := (fp_Of.f a0).bind fun t119 => (if t119 = 0 then (some (0, some 1)) else ((fp_Pow.f k a0 2305843009213693949).bind fun t120 => (some (t120, none))))
theorem fp_Inv.mono : ∀ a0 k, LeO (fp_Inv.f k a0) (fp_Inv.f (k + 1) a0) := by
  intro a0 k
  unfold fp_Inv.f
  repeat' first
      | (with_reducible exact fp_Pow.mono _ _ _)
      | (with_reducible exact LeO.refl _)
      | (with_reducible exact LeO.none _)
      | (with_reducible refine LeO.ite ?_ ?_)
      | (with_reducible refine LeO.bind ?_ (fun _ => ?_))
      | exact fp_Pow.mono _ _ _
      | exact LeO.none _
      | refine LeO.ite ?_ ?_
      | refine LeO.bind ?_ (fun _ => ?_)
set_option maxHeartbeats 8000000 in
set_option maxRecDepth 100000 in
theorem fp_Inv.calls (k : Nat) (a0 : Int) (r1 : Int) (r2 : Option Int) (w : World) (h : fp_Inv.f k a0 = some (r1, r2)) :
    Calls Tryd.prog 15 #[.int .u64 a0] w fun e w' => e = .returned (.tuple #[.int .u64 r1, errW r2]) ∧ Drawn0 w w' := by
  have hu24 := Tryd.underlying24
  have hu96 := Tryd.underlying96
  have H : ((fp_Of.f a0).bind fun t119 => (if t119 = 0 then (some (0, some 1)) else ((fp_Pow.f k a0 2305843009213693949).bind fun t120 => (some (t120, none))))) = some (r1, r2) := h
  clear h
  replace H := Option.bind_eq_some_iff.mp H
  obtain ⟨t119, A20, H⟩ := H
  replace H : (if t119 = 0 then (some (0, some 1)) else ((fp_Pow.f k a0 2305843009213693949).bind fun t120 => (some (t120, none)))) = some (r1, r2) := H
  have A2 := Aside0.mk A20
  clear A20
  by_cases c3 : t119 = 0
  · rw [if_pos c3] at H
    have c3b0 : (t119 == 0) = true := beq_iff_eq.mpr c3
    have c3b1 : (t119 != 0) = false := bne_eq_false_iff_eq.mpr c3
    clear c3
    simp only [Option.some.injEq, Prod.mk.injEq] at H
    obtain ⟨rfl, rfl⟩ := H
    go_enter Tryd.func15, Tryd.ntmps15
    go_wp2_with (first | ((with_reducible refine gate_callee (f := 17) rfl ?_); refine goesL_ (some 5) rfl rfl Tryd.func17 (by kernel_rfl) rfl #[.int .u64 a0] rfl (by (try simp only [List.map_toArray, List.map_cons, List.map_nil]); first | done | rfl | (simp only [List.length_drop, List.length_take]; rfl)) ?_; (with_reducible refine (fp_Of.calls a0 t119 _ A2.out).mono ?_); rintro e w' ⟨rfl, ⟨nd, rfl⟩⟩; refine ⟨_, rfl, ?_⟩))
    go_ret2
    exact ⟨by first | rfl | (simp; done) | (simp [*]; done), by repeat (first | exact Drawn0.refl _ | apply Drawn0.step)⟩
  · rw [if_neg c3] at H
    have c3b0 : (t119 == 0) = false := beq_eq_false_iff_ne.mpr c3
    have c3b1 : (t119 != 0) = true := bne_iff_ne.mpr c3
    replace H := Option.bind_eq_some_iff.mp H
    obtain ⟨t120, A40, H⟩ := H
    replace H : (some (t120, none)) = some (r1, r2) := H
    have A4 := Aside0.mk A40
    clear A40
    simp only [Option.some.injEq, Prod.mk.injEq] at H
    obtain ⟨rfl, rfl⟩ := H
    go_enter Tryd.func15, Tryd.ntmps15
    go_wp2_with (first | ((with_reducible refine gate_callee (f := 17) rfl ?_); refine goesL_ (some 5) rfl rfl Tryd.func17 (by kernel_rfl) rfl #[.int .u64 a0] rfl (by (try simp only [List.map_toArray, List.map_cons, List.map_nil]); first | done | rfl | (simp only [List.length_drop, List.length_take]; rfl)) ?_; (with_reducible refine (fp_Of.calls a0 t119 _ A2.out).mono ?_); rintro e w' ⟨rfl, ⟨nd, rfl⟩⟩; refine ⟨_, rfl, ?_⟩) | ((with_reducible refine gate_callee (f := 24) rfl ?_); refine goesL_ (some 9) rfl rfl Tryd.func24 (by kernel_rfl) rfl #[.int .u64 a0, .int .u64 2305843009213693949] rfl (by (try simp only [List.map_toArray, List.map_cons, List.map_nil]); first | done | rfl | (simp only [List.length_drop, List.length_take]; rfl)) ?_; (with_reducible refine (fp_Pow.calls k a0 2305843009213693949 t120 _ A4.out).mono ?_); rintro e w' ⟨rfl, ⟨nd, rfl⟩⟩; refine ⟨_, rfl, ?_⟩))
    go_ret2
    exact ⟨by first | rfl | (simp; done) | (simp [*]; done), by repeat (first | exact Drawn0.refl _ | apply Drawn0.step)⟩

/-! ### fp_Div: function 16 -/
def fp_Div.f (k : Nat) (a0 : Int) (a1 : Int) : Option (Int × Option Int) := (fp_Inv.f k a1).bind fun bt121 => (if bt121.2.isNone = true then ((fp_Mul.f a0 bt121.1).bind fun t124 => (some (t124, none))) else (some (0, some (bt121.2.getD 0))))
theorem fp_Div.mono : ∀ a0 a1 k, LeO (fp_Div.f k a0 a1) (fp_Div.f (k + 1) a0 a1) := by
  intro a0 a1 k
  unfold fp_Div.f
  repeat' first
      | (with_reducible exact fp_Inv.mono _ _)
      | (with_reducible exact LeO.refl _)
      | (with_reducible exact LeO.none _)
      | (with_reducible refine LeO.ite ?_ ?_)
      | (with_reducible refine LeO.bind ?_ (fun _ => ?_))
      | exact fp_Inv.mono _ _
      | exact LeO.none _
      | refine LeO.ite ?_ ?_
      | refine LeO.bind ?_ (fun _ => ?_)
set_option maxHeartbeats 8000000 in
set_option maxRecDepth 100000 in
theorem fp_Div.calls (k : Nat) (a0 : Int) (a1 : Int) (r1 : Int) (r2 : Option Int) (w : World) (h : fp_Div.f k a0 a1 = some (r1, r2)) :
    Calls Tryd.prog 16 #[.int .u64 a0, .int .u64 a1] w fun e w' => e = .returned (.tuple #[.int .u64 r1, errW r2]) ∧ Drawn0 w w' := by
  have hu24 := Tryd.underlying24
  have hu96 := Tryd.underlying96
  have H : ((fp_Inv.f k a1).bind fun bt121 => (if bt121.2.isNone = true then ((fp_Mul.f a0 bt121.1).bind fun t124 => (some (t124, none))) else (some (0, some (bt121.2.getD 0))))) = some (r1, r2) := h
  clear h
  replace H := Option.bind_eq_some_iff.mp H
  obtain ⟨⟨t121, t122⟩, A30, H⟩ := H
  replace H : (if t122.isNone = true then ((fp_Mul.f a0 t121).bind fun t124 => (some (t124, none))) else (some (0, some (t122.getD 0)))) = some (r1, r2) := H
  have A3 := Aside0.mk A30
  clear A30
  rcases t122 with _ | q123
  · have H1 : ((fp_Mul.f a0 t121).bind fun t124 => (some (t124, none))) = some (r1, r2) := by rw [if_pos (show (none : Option Int).isNone = true by rfl)] at H; exact H
    clear H
    have H := H1
    clear H1
    try simp only [errW_none, errW_some]
    replace H := Option.bind_eq_some_iff.mp H
    obtain ⟨t124, A40, H⟩ := H
    replace H : (some (t124, none)) = some (r1, r2) := H
    have A4 := Aside0.mk A40
    clear A40
    simp only [Option.some.injEq, Prod.mk.injEq] at H
    obtain ⟨rfl, rfl⟩ := H
    go_enter Tryd.func16, Tryd.ntmps16
    go_wp2_with (first | ((with_reducible refine gate_callee (f := 15) rfl ?_); refine goesL_ (some 10) rfl rfl Tryd.func15 (by kernel_rfl) rfl #[.int .u64 a1] rfl (by (try simp only [List.map_toArray, List.map_cons, List.map_nil]); first | done | rfl | (simp only [List.length_drop, List.length_take]; rfl)) ?_; (with_reducible refine (fp_Inv.calls k a1 t121 none _ A3.out).mono ?_); rintro e w' ⟨rfl, ⟨nd, rfl⟩⟩; refine ⟨_, rfl, ?_⟩; (try simp only [errW_none, errW_some])) | ((with_reducible refine gate_callee (f := 22) rfl ?_); refine goesL_ (some 18) rfl rfl Tryd.func22 (by kernel_rfl) rfl #[.int .u64 a0, .int .u64 t121] rfl (by (try simp only [List.map_toArray, List.map_cons, List.map_nil]); first | done | rfl | (simp only [List.length_drop, List.length_take]; rfl)) ?_; (with_reducible refine (fp_Mul.calls a0 t121 t124 _ A4.out).mono ?_); rintro e w' ⟨rfl, ⟨nd, rfl⟩⟩; refine ⟨_, rfl, ?_⟩))
    go_ret2
    exact ⟨by first | rfl | (simp; done) | (simp [*]; done), by repeat (first | exact Drawn0.refl _ | apply Drawn0.step)⟩
  · have H1 : (some (0, some q123)) = some (r1, r2) := by rw [if_neg (show ¬ (some q123).isNone = true by simp)] at H; exact H
    clear H
    have H := H1
    clear H1
    try simp only [errW_none, errW_some]
    simp only [Option.some.injEq, Prod.mk.injEq] at H
    obtain ⟨rfl, rfl⟩ := H
    go_enter Tryd.func16, Tryd.ntmps16
    go_wp2_with (first | ((with_reducible refine gate_callee (f := 15) rfl ?_); refine goesL_ (some 10) rfl rfl Tryd.func15 (by kernel_rfl) rfl #[.int .u64 a1] rfl (by (try simp only [List.map_toArray, List.map_cons, List.map_nil]); first | done | rfl | (simp only [List.length_drop, List.length_take]; rfl)) ?_; (with_reducible refine (fp_Inv.calls k a1 t121 (some q123) _ A3.out).mono ?_); rintro e w' ⟨rfl, ⟨nd, rfl⟩⟩; refine ⟨_, rfl, ?_⟩; (try simp only [errW_none, errW_some])))
    go_ret2
    exact ⟨by first | rfl | (simp; done) | (simp [*]; done), by repeat (first | exact Drawn0.refl _ | apply Drawn0.step)⟩

/-! ### caucusref01_Add: function 19 -/
def caucusref01_Add.f (a0 : Int) (a1 : Int) : Option (Int) := some (Int.tmod (IntKind.u64.wrap ((Int.tmod a0 2305843009213693951) + (Int.tmod a1 2305843009213693951))) 2305843009213693951)
set_option maxHeartbeats 8000000 in
set_option maxRecDepth 100000 in
theorem caucusref01_Add.calls (a0 : Int) (a1 : Int) (r : Int) (w : World) (h : caucusref01_Add.f a0 a1 = some r) :
    Calls Tryd.prog 19 #[.int .u64 a0, .int .u64 a1] w fun e w' => e = .returned (.int .u64 r) ∧ Drawn0 w w' := by
  have H : (some (Int.tmod (IntKind.u64.wrap ((Int.tmod a0 2305843009213693951) + (Int.tmod a1 2305843009213693951))) 2305843009213693951)) = some r := h
  clear h
  obtain rfl := Option.some.inj H
  go_enter Tryd.func19, Tryd.ntmps19
  go_wp2
  go_ret
  exact ⟨by first | rfl | (simp; done) | (simp [*]; done), by repeat (first | exact Drawn0.refl _ | apply Drawn0.step)⟩

/-! ### fp_Sub: function 20 -/
def fp_Sub.f (a0 : Int) (a1 : Int) : Option (Int) := (fp_Of.f a0).bind fun t125 => ((fp_Of.f a1).bind fun t126 => ((fp_Of.f (IntKind.u64.wrap ((IntKind.u64.wrap (t125 + 2305843009213693951)) - t126))).bind fun t127 => (some t127)))
set_option maxHeartbeats 8000000 in
set_option maxRecDepth 100000 in
theorem fp_Sub.calls (a0 : Int) (a1 : Int) (r : Int) (w : World) (h : fp_Sub.f a0 a1 = some r) :
    Calls Tryd.prog 20 #[.int .u64 a0, .int .u64 a1] w fun e w' => e = .returned (.int .u64 r) ∧ Drawn0 w w' := by
  have H : ((fp_Of.f a0).bind fun t125 => ((fp_Of.f a1).bind fun t126 => ((fp_Of.f (IntKind.u64.wrap ((IntKind.u64.wrap (t125 + 2305843009213693951)) - t126))).bind fun t127 => (some t127)))) = some r := h
  clear h
  replace H := Option.bind_eq_some_iff.mp H
  obtain ⟨t125, A30, H⟩ := H
  replace H : ((fp_Of.f a1).bind fun t126 => ((fp_Of.f (IntKind.u64.wrap ((IntKind.u64.wrap (t125 + 2305843009213693951)) - t126))).bind fun t127 => (some t127))) = some r := H
  have A3 := Aside0.mk A30
  clear A30
  replace H := Option.bind_eq_some_iff.mp H
  obtain ⟨t126, A40, H⟩ := H
  replace H : ((fp_Of.f (IntKind.u64.wrap ((IntKind.u64.wrap (t125 + 2305843009213693951)) - t126))).bind fun t127 => (some t127)) = some r := H
  have A4 := Aside0.mk A40
  clear A40
  replace H := Option.bind_eq_some_iff.mp H
  obtain ⟨t127, A50, H⟩ := H
  replace H : (some t127) = some r := H
  have A5 := Aside0.mk A50
  clear A50
  obtain rfl := Option.some.inj H
  go_enter Tryd.func20, Tryd.ntmps20
  go_wp2_with (first | ((with_reducible refine gate_callee (f := 17) rfl ?_); refine goesL_ (some 6) rfl rfl Tryd.func17 (by kernel_rfl) rfl #[.int .u64 a0] rfl (by (try simp only [List.map_toArray, List.map_cons, List.map_nil]); first | done | rfl | (simp only [List.length_drop, List.length_take]; rfl)) ?_; (with_reducible refine (fp_Of.calls a0 t125 _ A3.out).mono ?_); rintro e w' ⟨rfl, ⟨nd, rfl⟩⟩; refine ⟨_, rfl, ?_⟩) | ((with_reducible refine gate_callee (f := 17) rfl ?_); refine goesL_ (some 9) rfl rfl Tryd.func17 (by kernel_rfl) rfl #[.int .u64 a1] rfl (by (try simp only [List.map_toArray, List.map_cons, List.map_nil]); first | done | rfl | (simp only [List.length_drop, List.length_take]; rfl)) ?_; (with_reducible refine (fp_Of.calls a1 t126 _ A4.out).mono ?_); rintro e w' ⟨rfl, ⟨nd, rfl⟩⟩; refine ⟨_, rfl, ?_⟩) | ((with_reducible refine gate_callee (f := 17) rfl ?_); refine goesL_ (some 11) rfl rfl Tryd.func17 (by kernel_rfl) rfl #[.int .u64 (IntKind.u64.wrap ((IntKind.u64.wrap (t125 + 2305843009213693951)) - t126))] rfl (by (try simp only [List.map_toArray, List.map_cons, List.map_nil]); first | done | rfl | (simp only [List.length_drop, List.length_take]; rfl)) ?_; (with_reducible refine (fp_Of.calls (IntKind.u64.wrap ((IntKind.u64.wrap (t125 + 2305843009213693951)) - t126)) t127 _ A5.out).mono ?_); rintro e w' ⟨rfl, ⟨nd, rfl⟩⟩; refine ⟨_, rfl, ?_⟩))
  go_ret
  exact ⟨by first | rfl | (simp; done) | (simp [*]; done), by repeat (first | exact Drawn0.refl _ | apply Drawn0.step)⟩

/-! ### caucusref01_Sub: function 21 -/
def caucusref01_Sub.f (a0 : Int) (a1 : Int) : Option (Int) := some (Int.tmod (IntKind.u64.wrap ((Int.tmod a0 2305843009213693951) + (IntKind.u64.wrap (2305843009213693951 - (Int.tmod a1 2305843009213693951))))) 2305843009213693951)
set_option maxHeartbeats 8000000 in
set_option maxRecDepth 100000 in
theorem caucusref01_Sub.calls (a0 : Int) (a1 : Int) (r : Int) (w : World) (h : caucusref01_Sub.f a0 a1 = some r) :
    Calls Tryd.prog 21 #[.int .u64 a0, .int .u64 a1] w fun e w' => e = .returned (.int .u64 r) ∧ Drawn0 w w' := by
  have H : (some (Int.tmod (IntKind.u64.wrap ((Int.tmod a0 2305843009213693951) + (IntKind.u64.wrap (2305843009213693951 - (Int.tmod a1 2305843009213693951))))) 2305843009213693951)) = some r := h
  clear h
  obtain rfl := Option.some.inj H
  go_enter Tryd.func21, Tryd.ntmps21
  go_wp2
  go_ret
  exact ⟨by first | rfl | (simp; done) | (simp [*]; done), by repeat (first | exact Drawn0.refl _ | apply Drawn0.step)⟩

/-! ### caucusref01_Mul: function 23 -/
mutual
def caucusref01_Mul.l0 : Nat → Int → Int → Int → Int → Option (Int)
  | 0, _, _, _, _ => none
  | k + 1, x0, x1, x5, x6 => if x6 ≥ 0 then (if 0 ≤ (IntKind.u64.wrap (x6)) then (if (Int.tmod (shr .u64 x1 (IntKind.u64.wrap (x6))) 2) = 1 then (caucusref01_Mul.j1 k x0 x1 (IntKind.u64.wrap ((IntKind.u64.wrap (2 * x5)) + x0)) x6) else (caucusref01_Mul.j1 k x0 x1 (IntKind.u64.wrap (2 * x5)) x6)) else (none)) else (some x5)
def caucusref01_Mul.j1 : Nat → Int → Int → Int → Int → Option (Int)
  | 0, _, _, _, _ => none
  | k + 1, x0, x1, x5, x6 => caucusref01_Mul.l1 k x0 x1 x5 x6
def caucusref01_Mul.l1 : Nat → Int → Int → Int → Int → Option (Int)
  | 0, _, _, _, _ => none
  | k + 1, x0, x1, x5, x6 => if x5 ≥ 2305843009213693951 then (caucusref01_Mul.l1 k x0 x1 (IntKind.u64.wrap (x5 - 2305843009213693951)) x6) else (caucusref01_Mul.l0 k x0 x1 x5 (wrap64 (x6 - 1)))
end
def caucusref01_Mul.f (k : Nat) (a0 : Int) (a1 : Int) : Option (Int) := caucusref01_Mul.l0 k (Int.tmod a0 2305843009213693951) (Int.tmod a1 2305843009213693951) 0 60
theorem caucusref01_Mul.mono_l : ∀ k, (∀ y0 y1 y2 y3, LeO (caucusref01_Mul.l0 k y0 y1 y2 y3) (caucusref01_Mul.l0 (k + 1) y0 y1 y2 y3)) ∧ (∀ y0 y1 y2 y3, LeO (caucusref01_Mul.j1 k y0 y1 y2 y3) (caucusref01_Mul.j1 (k + 1) y0 y1 y2 y3)) ∧ (∀ y0 y1 y2 y3, LeO (caucusref01_Mul.l1 k y0 y1 y2 y3) (caucusref01_Mul.l1 (k + 1) y0 y1 y2 y3))
  | 0 => ⟨fun _ _ _ _ r h => by simp [caucusref01_Mul.l0] at h, fun _ _ _ _ r h => by simp [caucusref01_Mul.j1] at h, fun _ _ _ _ r h => by simp [caucusref01_Mul.l1] at h⟩
  | k + 1 => by
    obtain ⟨ih0, ih1, ih2⟩ := caucusref01_Mul.mono_l k
    refine ⟨?_, ?_, ?_⟩
    · intro y0 y1 y2 y3
      unfold caucusref01_Mul.l0
      repeat' first
      | (with_reducible exact ih0 _ _ _ _)
      | (with_reducible exact ih1 _ _ _ _)
      | (with_reducible exact ih2 _ _ _ _)
      | (with_reducible exact LeO.refl _)
      | (with_reducible exact LeO.none _)
      | (with_reducible refine LeO.ite ?_ ?_)
      | (with_reducible refine LeO.bind ?_ (fun _ => ?_))
      | exact ih0 _ _ _ _
      | exact ih1 _ _ _ _
      | exact ih2 _ _ _ _
      | exact LeO.none _
      | refine LeO.ite ?_ ?_
      | refine LeO.bind ?_ (fun _ => ?_)
    · intro y0 y1 y2 y3
      unfold caucusref01_Mul.j1
      repeat' first
      | (with_reducible exact ih0 _ _ _ _)
      | (with_reducible exact ih1 _ _ _ _)
      | (with_reducible exact ih2 _ _ _ _)
      | (with_reducible exact LeO.refl _)
      | (with_reducible exact LeO.none _)
      | (with_reducible refine LeO.ite ?_ ?_)
      | (with_reducible refine LeO.bind ?_ (fun _ => ?_))
      | exact ih0 _ _ _ _
      | exact ih1 _ _ _ _
      | exact ih2 _ _ _ _
      | exact LeO.none _
      | refine LeO.ite ?_ ?_
      | refine LeO.bind ?_ (fun _ => ?_)
    · intro y0 y1 y2 y3
      unfold caucusref01_Mul.l1
      repeat' first
      | (with_reducible exact ih0 _ _ _ _)
      | (with_reducible exact ih1 _ _ _ _)
      | (with_reducible exact ih2 _ _ _ _)
      | (with_reducible exact LeO.refl _)
      | (with_reducible exact LeO.none _)
      | (with_reducible refine LeO.ite ?_ ?_)
      | (with_reducible refine LeO.bind ?_ (fun _ => ?_))
      | exact ih0 _ _ _ _
      | exact ih1 _ _ _ _
      | exact ih2 _ _ _ _
      | exact LeO.none _
      | refine LeO.ite ?_ ?_
      | refine LeO.bind ?_ (fun _ => ?_)
theorem caucusref01_Mul.mono : ∀ a0 a1 k, LeO (caucusref01_Mul.f k a0 a1) (caucusref01_Mul.f (k + 1) a0 a1) := by
  intro a0 a1 k
  obtain ⟨ih0, ih1, ih2⟩ := caucusref01_Mul.mono_l k
  unfold caucusref01_Mul.f
  repeat' first
      | (with_reducible exact ih0 _ _ _ _)
      | (with_reducible exact ih1 _ _ _ _)
      | (with_reducible exact ih2 _ _ _ _)
      | (with_reducible exact LeO.refl _)
      | (with_reducible exact LeO.none _)
      | (with_reducible refine LeO.ite ?_ ?_)
      | (with_reducible refine LeO.bind ?_ (fun _ => ?_))
      | exact ih0 _ _ _ _
      | exact ih1 _ _ _ _
      | exact ih2 _ _ _ _
      | exact LeO.none _
      | refine LeO.ite ?_ ?_
      | refine LeO.bind ?_ (fun _ => ?_)
set_option maxHeartbeats 8000000 in
set_option maxRecDepth 100000 in
theorem caucusref01_Mul.calls (k : Nat) (a0 : Int) (a1 : Int) (r : Int) (w : World) (h : caucusref01_Mul.f k a0 a1 = some r) :
    Calls Tryd.prog 23 #[.int .u64 a0, .int .u64 a1] w fun e w' => e = .returned (.int .u64 r) ∧ Drawn0 w w' := by
  have H : (caucusref01_Mul.l0 k (Int.tmod a0 2305843009213693951) (Int.tmod a1 2305843009213693951) 0 60) = some r := h
  clear h
  have H' := Aside0.mk H
  clear H
  go_enter Tryd.func23, Tryd.ntmps23
  go_wp2
  go_loopg [5, 6] k (fun kq v5 v6 w' => ∃ (x5_1 : Int) (x6_1 : Int), v5 = .int .u64 x5_1 ∧ v6 = .int .i64 x6_1 ∧ Aside0 (caucusref01_Mul.l0 kq (Int.tmod a0 2305843009213693951) (Int.tmod a1 2305843009213693951) x5_1 x6_1 = some r) ∧ Aside0 (kq ≤ k) ∧ Drawn0 w w')
  case atStart => exact ⟨(0), (60), (by first | rfl | (simp; done) | (simp [*]; done)), (by first | rfl | (simp; done) | (simp [*]; done)), H', ⟨Nat.le_refl _⟩, by repeat (first | exact Drawn0.refl _ | apply Drawn0.step)⟩
  case round =>
    clear H'
    try clear c2
    try clear p2
    obtain ⟨x5_1, x6_1, rfl, rfl, HA, HK1, ⟨m1, rfl⟩⟩ := hrel
    cases gk with
    | zero => exact absurd HA.out (by simp [caucusref01_Mul.l0])
    | succ k1 =>
      have H := HA.out
      clear HA
      simp only [caucusref01_Mul.l0] at H
      by_cases c3 : x6_1 ≥ 0
      · rw [if_pos c3] at H
        have c3b0 : decide (0 ≤ x6_1) = true := decide_eq_true c3
        clear c3
        obtain ⟨ji4, hji4⟩ : ∃ j_ : Int, (IntKind.u64.wrap (x6_1)) = j_ := ⟨_, rfl⟩
        replace H : (if 0 ≤ (ji4) then (if (Int.tmod (shr .u64 (Int.tmod a1 2305843009213693951) (ji4)) 2) = 1 then (caucusref01_Mul.j1 k1 (Int.tmod a0 2305843009213693951) (Int.tmod a1 2305843009213693951) (IntKind.u64.wrap ((IntKind.u64.wrap (2 * x5_1)) + (Int.tmod a0 2305843009213693951))) x6_1) else (caucusref01_Mul.j1 k1 (Int.tmod a0 2305843009213693951) (Int.tmod a1 2305843009213693951) (IntKind.u64.wrap (2 * x5_1)) x6_1)) else (none)) = some r := by first | (rw [hji4] at H; exact H) | (simp only [hji4] at H ⊢; exact H)
        by_cases c5 : 0 ≤ (ji4)
        · rw [if_pos c5] at H
          have c5b0 := eq_true c5
          have c5b1 : decide (0 ≤ (ji4)) = true := decide_eq_true c5
          clear c5
          obtain ⟨ji6, hji6⟩ : ∃ j_ : Int, (shr .u64 (Int.tmod a1 2305843009213693951) (ji4)) = j_ := ⟨_, rfl⟩
          replace H : (if (Int.tmod (ji6) 2) = 1 then (caucusref01_Mul.j1 k1 (Int.tmod a0 2305843009213693951) (Int.tmod a1 2305843009213693951) (IntKind.u64.wrap ((IntKind.u64.wrap (2 * x5_1)) + (Int.tmod a0 2305843009213693951))) x6_1) else (caucusref01_Mul.j1 k1 (Int.tmod a0 2305843009213693951) (Int.tmod a1 2305843009213693951) (IntKind.u64.wrap (2 * x5_1)) x6_1)) = some r := by first | (rw [hji6] at H; exact H) | (simp only [hji6] at H ⊢; exact H)
          have hji6_ : ((Int.tmod a1 2305843009213693951) / 2 ^ min (ji4).toNat 64) = ji6 := hji6
          have hji6z : (ji4) ≤ 64 → ((Int.tmod a1 2305843009213693951) / 2 ^ (ji4).toNat) = ji6 := shr_small hji6
          have HC7 := Aside0.mk H
          clear H
          go_upto_if 22 with (fail)
          go_cut [5] (fun v5 wc => ∃ (kq : Nat) (x5_6 : Int), v5 = .int .u64 x5_6 ∧ Aside0 (caucusref01_Mul.j1 kq (Int.tmod a0 2305843009213693951) (Int.tmod a1 2305843009213693951) x5_6 x6_1 = some r) ∧ Aside0 (kq ≤ k1) ∧ Drawn0 w wc)
          case first =>
            have H := HC7.out
            clear HC7
            by_cases c8 : (Int.tmod (ji6) 2) = 1
            · rw [if_pos c8] at H
              have c8b0 : ((Int.tmod (ji6) 2) == 1) = true := beq_iff_eq.mpr c8
              have c8b1 : ((Int.tmod (ji6) 2) != 1) = false := bne_eq_false_iff_eq.mpr c8
              clear c8
              (first | rw [c8b0] | (simp only [i64_w, i32_w]; rw [c8b0]) | skip)
              have H' := Aside0.mk H
              clear H
              go_wp2
              go_meet
              case rel => exact ⟨_, (IntKind.u64.wrap ((IntKind.u64.wrap (2 * x5_1)) + (Int.tmod a0 2305843009213693951))), (by first | rfl | (simp; done) | (simp [*]; done)), H', ⟨by have := HK1.out; first | omega | exact Nat.le_refl _⟩, by repeat (first | exact Drawn0.refl _ | apply Drawn0.step)⟩
            · rw [if_neg c8] at H
              have c8b0 : ((Int.tmod (ji6) 2) == 1) = false := beq_eq_false_iff_ne.mpr c8
              have c8b1 : ((Int.tmod (ji6) 2) != 1) = true := bne_iff_ne.mpr c8
              (first | rw [c8b0] | (simp only [i64_w, i32_w]; rw [c8b0]) | skip)
              have H' := Aside0.mk H
              clear H
              go_wp2
              go_meet
              case rel => exact ⟨_, (IntKind.u64.wrap (2 * x5_1)), (by first | rfl | (simp; done) | (simp [*]; done)), H', ⟨by have := HK1.out; first | omega | exact Nat.le_refl _⟩, by repeat (first | exact Drawn0.refl _ | apply Drawn0.step)⟩
          case rest =>
            clear HC7
            try clear c2
            try clear p2
            try clear c3
            try clear c3b0
            try clear c5
            try clear c5b0
            try clear c5b1
            try clear c8
            try clear c8b0
            try clear c8b1
            try clear p2
            obtain ⟨kq, x5_6, rfl, HA, HJ6, ⟨mc6, rfl⟩⟩ := hcut
            cases kq with
            | zero => exact absurd HA.out (by simp [caucusref01_Mul.j1])
            | succ kj6 =>
              have H := HA.out
              clear HA
              simp only [caucusref01_Mul.j1] at H
              have H' := Aside0.mk H
              clear H
              go_wp2
              go_loopg [5] kj6 (fun kq v5 w' => ∃ (x5_3 : Int), v5 = .int .u64 x5_3 ∧ Aside0 (caucusref01_Mul.l1 kq (Int.tmod a0 2305843009213693951) (Int.tmod a1 2305843009213693951) x5_3 x6_1 = some r) ∧ Aside0 (kq ≤ kj6) ∧ Drawn0 w w')
              case atStart => exact ⟨(x5_6), (by first | rfl | (simp; done) | (simp [*]; done)), H', ⟨Nat.le_refl _⟩, by repeat (first | exact Drawn0.refl _ | apply Drawn0.step)⟩
              case round =>
                clear H'
                try clear c2
                try clear p2
                try clear c3
                try clear c3b0
                try clear c5
                try clear c5b0
                try clear c5b1
                try clear c6
                try clear c8
                try clear c8b0
                try clear c8b1
                try clear p2
                obtain ⟨x5_3, rfl, HA, HK3, ⟨m3, rfl⟩⟩ := hrel
                cases gk with
                | zero => exact absurd HA.out (by simp [caucusref01_Mul.l1])
                | succ k3 =>
                  have H := HA.out
                  clear HA
                  simp only [caucusref01_Mul.l1] at H
                  by_cases c9 : x5_3 ≥ 2305843009213693951
                  · rw [if_pos c9] at H
                    have c9b0 : decide (2305843009213693951 ≤ x5_3) = true := decide_eq_true c9
                    clear c9
                    have H' := Aside0.mk H
                    clear H
                    go_wp2
                    go_roundg k3
                    case measure => have := HK1.out; have := HJ6.out; have := HK3.out; omega
                    case rel => exact ⟨(IntKind.u64.wrap (x5_3 - 2305843009213693951)), (by first | rfl | (simp; done) | (simp [*]; done)), H', ⟨by have := HK1.out; have := HJ6.out; have := HK3.out; omega⟩, by repeat (first | exact Drawn0.refl _ | apply Drawn0.step)⟩
                  · rw [if_neg c9] at H
                    have c9b0 : decide (2305843009213693951 ≤ x5_3) = false := decide_eq_false c9
                    clear c9
                    have H' := Aside0.mk H
                    clear H
                    go_wp2
                    go_roundg k3
                    case measure => have := HK1.out; have := HJ6.out; have := HK3.out; omega
                    case rel => exact ⟨(x5_3), (wrap64 (x6_1 - 1)), (by first | rfl | (simp; done) | (simp [*]; done)), (by first | rfl | (simp; done) | (simp [*]; done)), H', ⟨by have := HK1.out; have := HJ6.out; have := HK3.out; omega⟩, by repeat (first | exact Drawn0.refl _ | apply Drawn0.step)⟩
        · rw [if_neg c5] at H
          exact absurd H (by simp)
      · rw [if_neg c3] at H
        have c3b0 : decide (0 ≤ x6_1) = false := decide_eq_false c3
        clear c3
        obtain rfl := Option.some.inj H
        go_wp2
        go_ret
        exact ⟨by first | rfl | (simp; done) | (simp [*]; done), by repeat (first | exact Drawn0.refl _ | apply Drawn0.step)⟩

/-! ### caucusref01_Pow: function 25 -/
def caucusref01_Pow.l0 : Nat → Int → Int → Int → Int → Option (Int)
  | 0, _, _, _, _ => none
  | k + 1, x0, x1, x5, x6 => if x6 ≥ 0 then ((caucusref01_Mul.f k x5 x5).bind fun t128 => (if 0 ≤ (IntKind.u64.wrap (x6)) then (if (Int.tmod (shr .u64 x1 (IntKind.u64.wrap (x6))) 2) = 1 then ((caucusref01_Mul.f k t128 x0).bind fun t129 => (caucusref01_Pow.l0 k x0 x1 t129 (wrap64 (x6 - 1)))) else (caucusref01_Pow.l0 k x0 x1 t128 (wrap64 (x6 - 1)))) else (none))) else (some x5)
def caucusref01_Pow.f (k : Nat) (a0 : Int) (a1 : Int) : Option (Int) := caucusref01_Pow.l0 k a0 a1 1 63
theorem caucusref01_Pow.mono_l : ∀ k, (∀ y0 y1 y2 y3, LeO (caucusref01_Pow.l0 k y0 y1 y2 y3) (caucusref01_Pow.l0 (k + 1) y0 y1 y2 y3))
  | 0 => fun _ _ _ _ r h => by simp [caucusref01_Pow.l0] at h
  | k + 1 => by
    have ih0 := caucusref01_Pow.mono_l k
    · intro y0 y1 y2 y3
      unfold caucusref01_Pow.l0
      repeat' first
      | (with_reducible exact ih0 _ _ _ _)
      | (with_reducible exact caucusref01_Mul.mono _ _ _)
      | (with_reducible exact LeO.refl _)
      | (with_reducible exact LeO.none _)
      | (with_reducible refine LeO.ite ?_ ?_)
      | (with_reducible refine LeO.bind ?_ (fun _ => ?_))
      | exact ih0 _ _ _ _
      | exact caucusref01_Mul.mono _ _ _
      | exact LeO.none _
      | refine LeO.ite ?_ ?_
      | refine LeO.bind ?_ (fun _ => ?_)
theorem caucusref01_Pow.mono : ∀ a0 a1 k, LeO (caucusref01_Pow.f k a0 a1) (caucusref01_Pow.f (k + 1) a0 a1) := by
  intro a0 a1 k
  have ih0 := caucusref01_Pow.mono_l k
  unfold caucusref01_Pow.f
  repeat' first
      | (with_reducible exact ih0 _ _ _ _)
      | (with_reducible exact caucusref01_Mul.mono _ _ _)
      | (with_reducible exact LeO.refl _)
      | (with_reducible exact LeO.none _)
      | (with_reducible refine LeO.ite ?_ ?_)
      | (with_reducible refine LeO.bind ?_ (fun _ => ?_))
      | exact ih0 _ _ _ _
      | exact caucusref01_Mul.mono _ _ _
      | exact LeO.none _
      | refine LeO.ite ?_ ?_
      | refine LeO.bind ?_ (fun _ => ?_)
set_option maxHeartbeats 8000000 in
set_option maxRecDepth 100000 in
theorem caucusref01_Pow.calls (k : Nat) (a0 : Int) (a1 : Int) (r : Int) (w : World) (h : caucusref01_Pow.f k a0 a1 = some r) :
    Calls Tryd.prog 25 #[.int .u64 a0, .int .u64 a1] w fun e w' => e = .returned (.int .u64 r) ∧ Drawn0 w w' := by
  have H : (caucusref01_Pow.l0 k a0 a1 1 63) = some r := h
  clear h
  have H' := Aside0.mk H
  clear H
  go_enter Tryd.func25, Tryd.ntmps25
  go_wp2
  go_loopg [5, 6] k (fun kq v5 v6 w' => ∃ (x5_1 : Int) (x6_1 : Int), v5 = .int .u64 x5_1 ∧ v6 = .int .i64 x6_1 ∧ Aside0 (caucusref01_Pow.l0 kq a0 a1 x5_1 x6_1 = some r) ∧ Aside0 (kq ≤ k) ∧ Drawn0 w w')
  case atStart => exact ⟨(1), (63), (by first | rfl | (simp; done) | (simp [*]; done)), (by first | rfl | (simp; done) | (simp [*]; done)), H', ⟨Nat.le_refl _⟩, by repeat (first | exact Drawn0.refl _ | apply Drawn0.step)⟩
  case round =>
    clear H'
    try clear c2
    try clear p2
    obtain ⟨x5_1, x6_1, rfl, rfl, HA, HK1, ⟨m1, rfl⟩⟩ := hrel
    cases gk with
    | zero => exact absurd HA.out (by simp [caucusref01_Pow.l0])
    | succ k1 =>
      have H := HA.out
      clear HA
      simp only [caucusref01_Pow.l0] at H
      by_cases c3 : x6_1 ≥ 0
      · rw [if_pos c3] at H
        have c3b0 : decide (0 ≤ x6_1) = true := decide_eq_true c3
        clear c3
        replace H := Option.bind_eq_some_iff.mp H
        obtain ⟨t128, A40, H⟩ := H
        replace H : (if 0 ≤ (IntKind.u64.wrap (x6_1)) then (if (Int.tmod (shr .u64 a1 (IntKind.u64.wrap (x6_1))) 2) = 1 then ((caucusref01_Mul.f k1 t128 a0).bind fun t129 => (caucusref01_Pow.l0 k1 a0 a1 t129 (wrap64 (x6_1 - 1)))) else (caucusref01_Pow.l0 k1 a0 a1 t128 (wrap64 (x6_1 - 1)))) else (none)) = some r := H
        have A4 := Aside0.mk A40
        clear A40
        obtain ⟨ji5, hji5⟩ : ∃ j_ : Int, (IntKind.u64.wrap (x6_1)) = j_ := ⟨_, rfl⟩
        replace H : (if 0 ≤ (ji5) then (if (Int.tmod (shr .u64 a1 (ji5)) 2) = 1 then ((caucusref01_Mul.f k1 t128 a0).bind fun t129 => (caucusref01_Pow.l0 k1 a0 a1 t129 (wrap64 (x6_1 - 1)))) else (caucusref01_Pow.l0 k1 a0 a1 t128 (wrap64 (x6_1 - 1)))) else (none)) = some r := by first | (rw [hji5] at H; exact H) | (simp only [hji5] at H ⊢; exact H)
        (try rw [hji5] at A4)
        by_cases c6 : 0 ≤ (ji5)
        · rw [if_pos c6] at H
          have c6b0 := eq_true c6
          have c6b1 : decide (0 ≤ (ji5)) = true := decide_eq_true c6
          clear c6
          obtain ⟨ji7, hji7⟩ : ∃ j_ : Int, (shr .u64 a1 (ji5)) = j_ := ⟨_, rfl⟩
          replace H : (if (Int.tmod (ji7) 2) = 1 then ((caucusref01_Mul.f k1 t128 a0).bind fun t129 => (caucusref01_Pow.l0 k1 a0 a1 t129 (wrap64 (x6_1 - 1)))) else (caucusref01_Pow.l0 k1 a0 a1 t128 (wrap64 (x6_1 - 1)))) = some r := by first | (rw [hji7] at H; exact H) | (simp only [hji7] at H ⊢; exact H)
          (try rw [hji7] at A4)
          have hji7_ : (a1 / 2 ^ min (ji5).toNat 64) = ji7 := hji7
          have hji7z : (ji5) ≤ 64 → (a1 / 2 ^ (ji5).toNat) = ji7 := shr_small hji7
          by_cases c8 : (Int.tmod (ji7) 2) = 1
          · rw [if_pos c8] at H
            have c8b0 : ((Int.tmod (ji7) 2) == 1) = true := beq_iff_eq.mpr c8
            have c8b1 : ((Int.tmod (ji7) 2) != 1) = false := bne_eq_false_iff_eq.mpr c8
            clear c8
            replace H := Option.bind_eq_some_iff.mp H
            obtain ⟨t129, A90, H⟩ := H
            replace H : (caucusref01_Pow.l0 k1 a0 a1 t129 (wrap64 (x6_1 - 1))) = some r := H
            have A9 := Aside0.mk A90
            clear A90
            have H' := Aside0.mk H
            clear H
            go_wp2_with (first | ((with_reducible refine gate_callee (f := 23) rfl ?_); refine goesL_ (some 13) rfl rfl Tryd.func23 (by kernel_rfl) rfl #[.int .u64 x5_1, .int .u64 x5_1] rfl (by (try simp only [List.map_toArray, List.map_cons, List.map_nil]); first | done | rfl | (simp only [List.length_drop, List.length_take]; rfl)) ?_; (with_reducible refine (caucusref01_Mul.calls k1 x5_1 x5_1 t128 _ A4.out).mono ?_); rintro e w' ⟨rfl, ⟨nd, rfl⟩⟩; refine ⟨_, rfl, ?_⟩) | ((with_reducible refine gate_callee (f := 23) rfl ?_); refine goesL_ (some 22) rfl rfl Tryd.func23 (by kernel_rfl) rfl #[.int .u64 t128, .int .u64 a0] rfl (by (try simp only [List.map_toArray, List.map_cons, List.map_nil]); first | done | rfl | (simp only [List.length_drop, List.length_take]; rfl)) ?_; (with_reducible refine (caucusref01_Mul.calls k1 t128 a0 t129 _ A9.out).mono ?_); rintro e w' ⟨rfl, ⟨nd, rfl⟩⟩; refine ⟨_, rfl, ?_⟩))
            go_roundg k1
            case measure => have := HK1.out; omega
            case rel => exact ⟨(t129), (wrap64 (x6_1 - 1)), (by first | rfl | (simp; done) | (simp [*]; done)), (by first | rfl | (simp; done) | (simp [*]; done)), H', ⟨by have := HK1.out; omega⟩, by repeat (first | exact Drawn0.refl _ | apply Drawn0.step)⟩
          · rw [if_neg c8] at H
            have c8b0 : ((Int.tmod (ji7) 2) == 1) = false := beq_eq_false_iff_ne.mpr c8
            have c8b1 : ((Int.tmod (ji7) 2) != 1) = true := bne_iff_ne.mpr c8
            have H' := Aside0.mk H
            clear H
            go_wp2_with (first | ((with_reducible refine gate_callee (f := 23) rfl ?_); refine goesL_ (some 13) rfl rfl Tryd.func23 (by kernel_rfl) rfl #[.int .u64 x5_1, .int .u64 x5_1] rfl (by (try simp only [List.map_toArray, List.map_cons, List.map_nil]); first | done | rfl | (simp only [List.length_drop, List.length_take]; rfl)) ?_; (with_reducible refine (caucusref01_Mul.calls k1 x5_1 x5_1 t128 _ A4.out).mono ?_); rintro e w' ⟨rfl, ⟨nd, rfl⟩⟩; refine ⟨_, rfl, ?_⟩))
            go_roundg k1
            case measure => have := HK1.out; omega
            case rel => exact ⟨(t128), (wrap64 (x6_1 - 1)), (by first | rfl | (simp; done) | (simp [*]; done)), (by first | rfl | (simp; done) | (simp [*]; done)), H', ⟨by have := HK1.out; omega⟩, by repeat (first | exact Drawn0.refl _ | apply Drawn0.step)⟩
        · rw [if_neg c6] at H
          exact absurd H (by simp)
      · rw [if_neg c3] at H
        have c3b0 : decide (0 ≤ x6_1) = false := decide_eq_false c3
        clear c3
        obtain rfl := Option.some.inj H
        go_wp2
        go_ret
        exact ⟨by first | rfl | (simp; done) | (simp [*]; done), by repeat (first | exact Drawn0.refl _ | apply Drawn0.step)⟩

end Go.Proofs.YtbfgppecpkfcnaaDoor.PFp
