/-
  The law VecOrder, walked.
-/
import Derived.Test.YtbfgppecpkfcnaaDoorThree
import Derived.LoopTactic
import Derived.Deep.QuietTactic
import Derived.Deep.RegionWith
import Derived.Deep.RegionHeld3
import Derived.Deep.DeepCutAuto
import Derived.Deep.CutBlock
namespace Go.Proofs.YtbfgppecpkfcnaaDoor.Vo
open Go.RowKit Go.Proofs.YtbfgppecpkfcnaaDoorW.PrintWords Go.Proofs.YtbfgppecpkfcnaaDoorW.PrintLast Go.Proofs.YtbfgppecpkfcnaaDoorW.PrintMore Go.Proofs.YtbfgppecpkfcnaaDoor.PVec Go.Proofs.YtbfgppecpkfcnaaDoor.Vt

theorem RnC {w : World} {A : Option Addr} {n : Nat} {l : List Int} (h : Rn n w A l) : Kd.C (Kd.int .u32) w A n l := by
  have := h.row
  unfold Row at this
  rwa [h.len] at this
/-- a row of rows in memory -/
structure Rw (w : World) (A : Option Addr) (n c : Nat) (l : List (List Int)) : Prop where
  row : KR.C w A n l
  len : l.length = n
  cap : n ≤ c
theorem Rw.below {w w1 : World} {A : Option Addr} {n c : Nat} {l : List (List Int)} (h : Rw w A n c l) (hb : Below w.heap.size w w1) : Rw w1 A n c l := ⟨Kd.C_below h.row hb, h.len, h.cap⟩
theorem rw_of {w : World} {b n : Nat} {S : Nat → Prop} {v : Value} {l : List (List Int)} (h : KR.R 36 w b S v l) (hl : l.length = n) (hn : 0 < n) : ∃ ad c, v = .slice (some ad) n c ∧ Rw w (some ad) n c l := by
  subst hl
  obtain ⟨ad, c, rfl⟩ := Kd.R_slice1 h hn
  have h2 := (Kd.R_reads' h).2
  exact ⟨ad, c, rfl, ⟨h2.2, rfl, h2.1⟩⟩
theorem Rw.take {w : World} {ad : Addr} {n c : Nat} {l : List (List Int)} (h : Rw w (some ad) n c l) (m : Nat) (hm : m ≤ n) : Rw w (some ad) m c (l.take m) := by
  obtain ⟨h1, rfl, h3⟩ := h
  have h4 := Kd.C_take h1 hm
  have e : (l.take m).length = m := by rw [List.length_take]; omega
  rw [e] at h4
  exact ⟨h4, e, by omega⟩
theorem Rw.drop {w : World} {ad : Addr} {n c : Nat} {l : List (List Int)} (h : Rw w (some ad) n c l) (m : Nat) (hm : m < n) : Rw w (some (ad.add m)) (n - m) (c - m) (l.drop m) := by
  obtain ⟨h1, rfl, h3⟩ := h
  have h4 := Kd.C_drop (c := c) (m := m) h1 (by omega) h3
  rw [if_neg (by omega)] at h4
  have e : (l.drop m).length = l.length - m := by rw [List.length_drop]
  rw [e] at h4
  have e1 : m * KR.sz = m := Nat.mul_one m
  rw [e1] at h4
  exact ⟨h4, e, by omega⟩
theorem Eight.take {l : List (List Int)} (h : Eight l) (m : Nat) : Eight (l.take m) := fun r hr => h r (List.mem_of_mem_take hr)
theorem Eight.drop {l : List (List Int)} (h : Eight l) (m : Nat) : Eight (l.drop m) := fun r hr => h r (List.mem_of_mem_drop hr)
theorem Eight.rev {l : List (List Int)} (h : Eight l) : Eight l.reverse := fun r hr => h r (List.mem_reverse.1 hr)
theorem take_rev (l : List (List Int)) (j : Nat) (hj : j < l.length) : (l.reverse).take (j + 1) = (l.reverse).take j ++ [l.getD (l.length - 1 - j) []] := by
  have h : j < l.reverse.length := by simp; omega
  rw [List.take_add_one, List.getElem?_eq_getElem h, List.getElem_reverse]
  simp [List.getD, show l.length - 1 - j < l.length by omega]
theorem take_at (l : List (List Int)) (j : Nat) (hj : j < l.length) : l.take (j + 1) = l.take j ++ [l.getD j []] := by
  rw [List.take_add_one, List.getElem?_eq_getElem hj]
  simp [List.getD, hj]
theorem map_take (k : Int) (l : List (List Int)) (j : Nat) (hj : j < l.length) : (l.take (j + 1)).map (tms k) = (l.take j).map (tms k) ++ [tms k (l.getD j [])] := by
  rw [take_at l j hj, List.map_append]
  rfl

set_option maxRecDepth 100000 in
set_option maxHeartbeats 2000000 in
theorem order_sure (A : Option Addr) (n c : Nat) (X k : Int) (w : World) (hG : As.LaidG w) (hn : n = 0 ∨ 60 < n) :
    Calls Tryd.prog 8 #[.slice A n c, .int .u8 X, .int .u32 k] w (Vt.Told true w) := by
  have HG := Aside0.mk hG
  rcases hn with rfl | hn
  · go_enter Tryd.func8, Tryd.ntmps8
    go_wp2_with (go_at_call 29; (with_reducible refine (sure_is _ HG.out).mono ?_); rintro e ws ⟨rfl, hb⟩)
    go_ret
    exact ⟨rfl, hb⟩
  · have q1 : decide (60 < (n : Int)) = true := decide_eq_true (by omega)
    have q2 : decide (60 < n) = true := decide_eq_true (by omega)
    clear hn
    go_enter Tryd.func8, Tryd.ntmps8
    go_wp2_with (go_at_call 29; (with_reducible refine (sure_is _ HG.out).mono ?_); rintro e ws ⟨rfl, hb⟩)
    go_ret
    exact ⟨rfl, hb⟩

set_option maxRecDepth 100000 in
set_option maxHeartbeats 4000000 in
theorem order_go (A : Option Addr) (n c : Nat) (X k : Int) (l : List (List Int)) (w : World) (hG : As.LaidG w) (h0 : 0 < n) (hn : n ≤ 60) (hX : 0 ≤ X) (hX2 : X ≤ 255) (hl : l.length = n) (h8 : Eight l) (hr : Rows8 w A l) :
    Calls Tryd.prog 8 #[.slice A n c, .int .u8 X, .int .u32 k] w (Vt.Told true w) := by
  have HG := Aside0.mk hG
  obtain ⟨ad, rfl, hrow⟩ := hr (by omega)
  have ROW := Aside0.mk hrow
  have E8 := Aside0.mk h8
  have HL := Aside0.mk hl
  clear hG hr hrow h8
  have z1 : decide ((n : Int) = 0) = false := decide_eq_false (by omega)
  have z2 : decide (n = 0) = false := decide_eq_false (by omega)
  have z3 : ((n : Int) == 0) = false := by simp; omega
  have q1 : decide (60 < (n : Int)) = false := decide_eq_false (by omega)
  have q2 : decide (60 < n) = false := decide_eq_false (by omega)
  clear hl
  go_enter Tryd.func8, Tryd.ntmps8
  go_wp2_with fail
  go_loopw [7, 8, 9, 10] (fun v7 v8 v9 i wr => ∃ j : Nat, i = .int .i64 j ∧ j ≤ n ∧ ∃ S1 S2 S3, Th w wr S1 S2 S3 v7 v8 v9 (l.take j) ((l.reverse).take j) ((l.take j).map (tms k))) (fun _ _ _ i _ => 60 - (intOf i).toNat)
  case atStart => exact ⟨0, rfl, by omega, _, _, _, Th.nil w⟩
  case round =>
    obtain ⟨j, rfl, hj, S1, S2, S3, ht⟩ := hrel
    have T0 := Aside0.mk ht
    clear ht
    by_cases hlt : (j : Int) < (n : Int)
    · have RJ : Aside0 (∀ W, Below w.heap.size w W → Rn 8 W (some (ad.add (j * 8))) (l.getD j [])) := ⟨fun W hW => (ROW.out j (by have := HL.out; omega)).below hW⟩
      have RT : Aside0 (∀ W, Below w.heap.size w W → Rn 8 W (some (ad.add ((n - 1 - j) * 8))) (l.getD (n - 1 - j) [])) := ⟨fun W hW => (ROW.out (n - 1 - j) (by have := HL.out; omega)).below hW⟩
      have X1 : Aside0 (l.take (j + 1) = l.take j ++ [l.getD j []]) := ⟨take_at l j (by have := HL.out; omega)⟩
      have X2 : Aside0 ((l.reverse).take (j + 1) = (l.reverse).take j ++ [l.getD (n - 1 - j) []]) := ⟨by have := take_rev l j (by have := HL.out; omega); rwa [HL.out] at this⟩
      have X3 : Aside0 ((l.take (j + 1)).map (tms k) = (l.take j).map (tms k) ++ [tms k (l.getD j [])]) := ⟨map_take k l j (by have := HL.out; omega)⟩
      have L1 : Aside0 ((l.take j).length ≤ 60) := ⟨by rw [List.length_take]; omega⟩
      have L2 : Aside0 (((l.reverse).take j).length ≤ 60) := ⟨by rw [List.length_take]; omega⟩
      have L3 : Aside0 (((l.take j).map (tms k)).length ≤ 60) := ⟨by rw [List.length_map, List.length_take]; omega⟩
      have hw1 : wrap64 ((n : Int) - 1) = (n : Int) - 1 := wrap64_in' _ (by omega) (by omega)
      have hw2 : wrap64 ((n : Int) - 1 - (j : Int)) = (n : Int) - 1 - (j : Int) := wrap64_in' _ (by omega) (by omega)
      generalize l.getD j [] = rj at *
      generalize l.getD (n - 1 - j) [] = rt at *
      generalize e3 : (l.take (j + 1)).map (tms k) = c1 at *
      generalize e1 : l.take (j + 1) = a1 at *
      generalize e2 : (l.reverse).take (j + 1) = b1 at *
      generalize (l.take j).map (tms k) = c0 at *
      generalize l.take j = a0 at *
      generalize (l.reverse).take j = b0 at *
      have E1 := Aside0.mk e1
      have E2 := Aside0.mk e2
      have E3 := Aside0.mk e3
      clear e1 e2 e3
      go_upto_region 8 with (first | ((with_reducible refine gate_dst (N := 46) rfl ?_); (try (refine gate_guard (by rfl) ?_; dsimp only)); refine Kd.R_lit (Kd.int .u32) _ 34 ?hg (N := 46) ?hd (xs := ([] : List Int)) (inner := []) (ok := fun _ => True) (okp := fun _ => True) ?hr ?hp (fun _ hk => hk) trivial (Below.refl _ _) (Nat.le_refl _) (by simp) ?_; (case hd => rfl); (case hg => rfl); (case hr => first | (go_simp; done) | (go_simp; rfl)); (case hp => exact (Reps.none _ _)); intro vL wL hoL hbL _ _; have HOL := Aside0.mk hoL; have HBL := Aside0.mk hbL; clear hoL hbL) | ((with_reducible refine gate_builtin (b := .append) (xs := #[.tmp 46, .tmp 50]) rfl ?_); go_loud ((try (refine gate_guard (by rfl) ?_; dsimp only)); at_builtin; refine Kd.R_append_rows (Kd.int .u32) _ rfl (.tmp 46) (.tmp 50) 36 34 (.int .u32 0) 4 rfl Tryd.underlying36 PVec.info34 rfl (by decide) (by omega) vL [] rj _ _ _ (fun _ => True) (fun _ => False) rfl rfl HOL.out (RnC (RJ.out _ (below_step T0.out.bel HBL.out))) (fun _ _ h => h) (fun _ h => h.elim) (fun _ _ => trivial) HBL.out HBL.out.size ?aL ?_; (case aL => simp); intro vC w5 hoC hbC _ _; rw [List.nil_append] at hoC; obtain ⟨AC, cC, rfl, _, _⟩ := Rn.of_R hoC (RJ.out _ (below_step T0.out.bel HBL.out)).len; have RO := Aside0.mk hoC; have BO := Aside0.mk hbC; clear hoC hbC HOL HBL)) | ((with_reducible refine gate_builtin (b := .append) (xs := #[.tmp 45, .tmp 52]) rfl ?_); go_loud (at_builtin; refine Kd.R_append KR (w0 := w) w.heap.size rfl (.tmp 45) (.tmp 52) 46 36 (.slice none 0 0) 24 rfl Tryd.underlying46 PVec.info36 rfl (by decide) (by omega) u7 a0 rj [.slice AC 8 cC] _ _ rfl rfl (rowM RO.out T0.out.bel.size) T0.out.own (fun _ hk => Or.inr (Nat.le_trans BO.out.size hk)) (T0.out.wide BO.out) (below_step T0.out.bel BO.out) (below_step T0.out.bel BO.out).size ?aL ?_; (case aL => have := L1.out; omega); intro v9_ w6 ho6 hb6 hg6 _; rw [← X1.out] at ho6; have T1 := Aside0.mk (T0.out.step BO.out ho6 hb6 hg6); clear ho6 hb6 hg6 RO BO T0)))
      go_upto_region 9 with (first | ((with_reducible refine gate_dst (N := 55) rfl ?_); (try (refine gate_guard (by rfl) ?_; dsimp only)); refine Kd.R_lit (Kd.int .u32) _ 34 ?hg (N := 55) ?hd (xs := ([] : List Int)) (inner := []) (ok := fun _ => True) (okp := fun _ => True) ?hr ?hp (fun _ hk => hk) trivial (Below.refl _ _) (Nat.le_refl _) (by simp) ?_; (case hd => rfl); (case hg => rfl); (case hr => first | (go_simp; done) | (go_simp; rfl)); (case hp => exact (Reps.none _ _)); intro vL wL hoL hbL _ _; have HOL := Aside0.mk hoL; have HBL := Aside0.mk hbL; clear hoL hbL) | ((with_reducible refine gate_builtin (b := .append) (xs := #[.tmp 55, .tmp 63]) rfl ?_); go_loud ((try (refine gate_guard (by rfl) ?_; dsimp only)); at_builtin; refine Kd.R_append_rows (Kd.int .u32) _ rfl (.tmp 55) (.tmp 63) 36 34 (.int .u32 0) 4 rfl Tryd.underlying36 PVec.info34 rfl (by decide) (by omega) vL [] rt _ _ _ (fun _ => True) (fun _ => False) rfl rfl HOL.out (RnC (RT.out _ (below_step T1.out.bel HBL.out))) (fun _ _ h => h) (fun _ h => h.elim) (fun _ _ => trivial) HBL.out HBL.out.size ?aL ?_; (case aL => simp); intro vC w5 hoC hbC _ _; rw [List.nil_append] at hoC; obtain ⟨AC, cC, rfl, _, _⟩ := Rn.of_R hoC (RT.out _ (below_step T1.out.bel HBL.out)).len; have RO := Aside0.mk hoC; have BO := Aside0.mk hbC; clear hoC hbC HOL HBL)) | ((with_reducible refine gate_builtin (b := .append) (xs := #[.tmp 54, .tmp 65]) rfl ?_); go_loud (at_builtin; refine Kd.R_append KR (w0 := w) w.heap.size rfl (.tmp 54) (.tmp 65) 46 36 (.slice none 0 0) 24 rfl Tryd.underlying46 PVec.info36 rfl (by decide) (by omega) u8 b0 rt [.slice AC 8 cC] _ _ rfl rfl (rowM RO.out T1.out.bel.size) T1.out.rot.own (fun _ hk => Or.inr (Nat.le_trans BO.out.size hk)) (T1.out.rot.wide BO.out) (below_step T1.out.bel BO.out) (below_step T1.out.bel BO.out).size ?aL ?_; (case aL => have := L2.out; omega); intro v9_ w6 ho6 hb6 hg6 _; rw [← X2.out] at ho6; have T2 := Aside0.mk (T1.out.rot.step BO.out ho6 hb6 hg6); clear ho6 hb6 hg6 RO BO T1)))
      go_wp2_with (first | (go_at_call 33; (with_reducible refine (times_o k (RJ.out _ T2.out.bel) (by decide)).mono ?_); rintro e w5 ⟨AC, cC, rfl, hR, hb⟩; have RO := Aside0.mk hR; have BO := Aside0.mk hb; clear hR hb) | ((with_reducible refine gate_builtin (b := .append) (xs := #[.tmp 78, .tmp 80]) rfl ?_); go_loud (at_builtin; refine Kd.R_append KR (w0 := w) w.heap.size rfl (.tmp 78) (.tmp 80) 46 36 (.slice none 0 0) 24 rfl Tryd.underlying46 PVec.info36 rfl (by decide) (by omega) u9 c0 (tms k rj) [.slice AC 8 cC] _ _ rfl rfl (rowM RO.out T2.out.bel.size) T2.out.rot.own (fun _ hk => Or.inr (Nat.le_trans BO.out.size hk)) (T2.out.rot.wide BO.out) (below_step T2.out.bel BO.out) (below_step T2.out.bel BO.out).size ?aL ?_; (case aL => have := L3.out; omega); intro v9_ w6 ho6 hb6 hg6 _; rw [← X3.out] at ho6; have T3 := Aside0.mk (T2.out.rot.step BO.out ho6 hb6 hg6); clear ho6 hb6 hg6 RO BO T2)))
      go_roundw
      case rel => exact ⟨j + 1, by go_num, by omega, _, _, _, by rw [E1.out, E2.out, E3.out]; exact T3.out.rot⟩
      case measure => simp [intOf]; omega
    · obtain rfl : j = n := by omega
      have R1 := T0.out.r1
      have R2 := T0.out.r2
      have R3 := T0.out.r3
      have HB := Aside0.mk T0.out.bel
      rw [List.take_of_length_le (by have := HL.out; omega)] at R1 R3
      rw [List.take_of_length_le (by rw [List.length_reverse]; have := HL.out; omega)] at R2
      clear T0
      obtain ⟨a1, c1, rfl, W1⟩ := rw_of (n := j) R1 HL.out (by omega)
      obtain ⟨a2, c2, rfl, W2⟩ := rw_of (n := j) R2 (by rw [List.length_reverse]; exact HL.out) (by omega)
      obtain ⟨a3, c3, rfl, W3⟩ := rw_of (n := j) R3 (by rw [List.length_map]; exact HL.out) (by omega)
      clear R1 R2 R3
      have m0 : 0 ≤ X % (j : Int) := Int.emod_nonneg _ (by omega)
      have m1 : X % (j : Int) < j := Int.emod_lt_of_pos _ (by omega)
      obtain ⟨m, hm⟩ : ∃ m : Nat, X % (j : Int) = m := ⟨(X % (j : Int)).toNat, by omega⟩
      have hmj : m < j := by omega
      have W4 := Aside0.mk (W1.take m (by omega))
      have W5 := Aside0.mk (W1.drop m hmj)
      have Q1 := Aside0.mk W1
      have Q2 := Aside0.mk W2
      have Q3 := Aside0.mk W3
      have hc1 : j ≤ c1 := W1.cap
      have LJ : Aside0 (j ≤ 1000) := ⟨by omega⟩
      have LM : Aside0 (m ≤ 1000) := ⟨by omega⟩
      have LD : Aside0 (j - m ≤ 1000) := ⟨by omega⟩
      clear W1 W2 W3
      have QE1 : Aside0 (decide (tot l = tot l.reverse) = true) := ⟨decide_eq_true (tot_reverse l).symm⟩
      have QE2 : Aside0 (decide (tot l = List.zipWith Bo.op_add (tot (l.take m)) (tot (l.drop m))) = true) := ⟨decide_eq_true (tot_add l m).symm⟩
      have QE3 : Aside0 (decide (List.zipWith Bo.op_sub (tot l) (tot (l.drop m)) = tot (l.take m)) = true) := ⟨decide_eq_true (tot_sub l m)⟩
      have QE4 : Aside0 (decide (List.zipWith (Bo.op_times k) (tot l) (tot l) = tot (l.map (tms k))) = true) := ⟨decide_eq_true (tot_tms k l E8.out)⟩
      go_upto_region 14 with (fail)
      rw [hm]
      clear hm m0 m1
      go_wp2_with (first | (go_at_call 38; (with_reducible refine (sum_is Q1.out.row Q1.out.len Q1.out.cap E8.out LJ.out).mono ?_); rintro e w_ ⟨ARS, cRS, rfl, hc, hr, hb⟩; have T1_ := Aside0.mk (Q1.out.below hb); clear Q1; have Q1 := T1_; clear T1_; have T1_ := Aside0.mk (Q2.out.below hb); clear Q2; have Q2 := T1_; clear T1_; have T1_ := Aside0.mk (Q3.out.below hb); clear Q3; have Q3 := T1_; clear T1_; have T1_ := Aside0.mk (W4.out.below hb); clear W4; have W4 := T1_; clear T1_; have T1_ := Aside0.mk (W5.out.below hb); clear W5; have W5 := T1_; clear T1_; have T1_ := Aside0.mk (below_step HB.out hb); clear HB; have HB := T1_; clear T1_; have RS := Aside0.mk hr; have CRS := Aside0.mk hc; clear hc hr hb) | (go_at_call 38; (with_reducible refine (sum_is Q2.out.row Q2.out.len Q2.out.cap E8.out.rev LJ.out).mono ?_); rintro e w_ ⟨ARU, cRU, rfl, hc, hr, hb⟩; have T1_ := Aside0.mk (Q1.out.below hb); clear Q1; have Q1 := T1_; clear T1_; have T1_ := Aside0.mk (Q2.out.below hb); clear Q2; have Q2 := T1_; clear T1_; have T1_ := Aside0.mk (Q3.out.below hb); clear Q3; have Q3 := T1_; clear T1_; have T1_ := Aside0.mk (W4.out.below hb); clear W4; have W4 := T1_; clear T1_; have T1_ := Aside0.mk (W5.out.below hb); clear W5; have W5 := T1_; clear T1_; have T1_ := Aside0.mk (RS.out.below hb); clear RS; have RS := T1_; clear T1_; have T1_ := Aside0.mk (below_step HB.out hb); clear HB; have HB := T1_; clear T1_; have RU := Aside0.mk hr; have CRU := Aside0.mk hc; clear hc hr hb) | (go_at_call 38; (with_reducible refine (sum_is W4.out.row W4.out.len W4.out.cap (E8.out.take m) LM.out).mono ?_); rintro e w_ ⟨ARA, cRA, rfl, hc, hr, hb⟩; have T1_ := Aside0.mk (Q1.out.below hb); clear Q1; have Q1 := T1_; clear T1_; have T1_ := Aside0.mk (Q2.out.below hb); clear Q2; have Q2 := T1_; clear T1_; have T1_ := Aside0.mk (Q3.out.below hb); clear Q3; have Q3 := T1_; clear T1_; have T1_ := Aside0.mk (W4.out.below hb); clear W4; have W4 := T1_; clear T1_; have T1_ := Aside0.mk (W5.out.below hb); clear W5; have W5 := T1_; clear T1_; have T1_ := Aside0.mk (RS.out.below hb); clear RS; have RS := T1_; clear T1_; have T1_ := Aside0.mk (RU.out.below hb); clear RU; have RU := T1_; clear T1_; have T1_ := Aside0.mk (below_step HB.out hb); clear HB; have HB := T1_; clear T1_; have RA := Aside0.mk hr; have CRA := Aside0.mk hc; clear hc hr hb) | (go_at_call 38; (with_reducible refine (sum_is W5.out.row W5.out.len W5.out.cap (E8.out.drop m) LD.out).mono ?_); rintro e w_ ⟨ARB, cRB, rfl, hc, hr, hb⟩; have T1_ := Aside0.mk (Q1.out.below hb); clear Q1; have Q1 := T1_; clear T1_; have T1_ := Aside0.mk (Q2.out.below hb); clear Q2; have Q2 := T1_; clear T1_; have T1_ := Aside0.mk (Q3.out.below hb); clear Q3; have Q3 := T1_; clear T1_; have T1_ := Aside0.mk (W4.out.below hb); clear W4; have W4 := T1_; clear T1_; have T1_ := Aside0.mk (W5.out.below hb); clear W5; have W5 := T1_; clear T1_; have T1_ := Aside0.mk (RS.out.below hb); clear RS; have RS := T1_; clear T1_; have T1_ := Aside0.mk (RU.out.below hb); clear RU; have RU := T1_; clear T1_; have T1_ := Aside0.mk (RA.out.below hb); clear RA; have RA := T1_; clear T1_; have T1_ := Aside0.mk (below_step HB.out hb); clear HB; have HB := T1_; clear T1_; have RB := Aside0.mk hr; have CRB := Aside0.mk hc; clear hc hr hb) | (go_at_call 30; (with_reducible refine (add_n RA.out CRA.out RB.out CRB.out (by decide)).mono ?_); rintro e w_ ⟨ARC, cRC, rfl, hc, hr, hb⟩; have T1_ := Aside0.mk (Q1.out.below hb); clear Q1; have Q1 := T1_; clear T1_; have T1_ := Aside0.mk (Q2.out.below hb); clear Q2; have Q2 := T1_; clear T1_; have T1_ := Aside0.mk (Q3.out.below hb); clear Q3; have Q3 := T1_; clear T1_; have T1_ := Aside0.mk (W4.out.below hb); clear W4; have W4 := T1_; clear T1_; have T1_ := Aside0.mk (W5.out.below hb); clear W5; have W5 := T1_; clear T1_; have T1_ := Aside0.mk (RS.out.below hb); clear RS; have RS := T1_; clear T1_; have T1_ := Aside0.mk (RU.out.below hb); clear RU; have RU := T1_; clear T1_; have T1_ := Aside0.mk (RA.out.below hb); clear RA; have RA := T1_; clear T1_; have T1_ := Aside0.mk (RB.out.below hb); clear RB; have RB := T1_; clear T1_; have T1_ := Aside0.mk (below_step HB.out hb); clear HB; have HB := T1_; clear T1_; have RC := Aside0.mk hr; have CRC := Aside0.mk hc; clear hc hr hb) | (go_at_call 32; (with_reducible refine (sub_n RS.out CRS.out RB.out CRB.out (by decide)).mono ?_); rintro e w_ ⟨ARD, cRD, rfl, hc, hr, hb⟩; have T1_ := Aside0.mk (Q1.out.below hb); clear Q1; have Q1 := T1_; clear T1_; have T1_ := Aside0.mk (Q2.out.below hb); clear Q2; have Q2 := T1_; clear T1_; have T1_ := Aside0.mk (Q3.out.below hb); clear Q3; have Q3 := T1_; clear T1_; have T1_ := Aside0.mk (W4.out.below hb); clear W4; have W4 := T1_; clear T1_; have T1_ := Aside0.mk (W5.out.below hb); clear W5; have W5 := T1_; clear T1_; have T1_ := Aside0.mk (RS.out.below hb); clear RS; have RS := T1_; clear T1_; have T1_ := Aside0.mk (RU.out.below hb); clear RU; have RU := T1_; clear T1_; have T1_ := Aside0.mk (RA.out.below hb); clear RA; have RA := T1_; clear T1_; have T1_ := Aside0.mk (RB.out.below hb); clear RB; have RB := T1_; clear T1_; have T1_ := Aside0.mk (RC.out.below hb); clear RC; have RC := T1_; clear T1_; have T1_ := Aside0.mk (below_step HB.out hb); clear HB; have HB := T1_; clear T1_; have RD := Aside0.mk hr; have CRD := Aside0.mk hc; clear hc hr hb) | (go_at_call 33; (with_reducible refine (times_n k RS.out CRS.out (by decide)).mono ?_); rintro e w_ ⟨ARM, cRM, rfl, hc, hr, hb⟩; have T1_ := Aside0.mk (Q1.out.below hb); clear Q1; have Q1 := T1_; clear T1_; have T1_ := Aside0.mk (Q2.out.below hb); clear Q2; have Q2 := T1_; clear T1_; have T1_ := Aside0.mk (Q3.out.below hb); clear Q3; have Q3 := T1_; clear T1_; have T1_ := Aside0.mk (W4.out.below hb); clear W4; have W4 := T1_; clear T1_; have T1_ := Aside0.mk (W5.out.below hb); clear W5; have W5 := T1_; clear T1_; have T1_ := Aside0.mk (RS.out.below hb); clear RS; have RS := T1_; clear T1_; have T1_ := Aside0.mk (RU.out.below hb); clear RU; have RU := T1_; clear T1_; have T1_ := Aside0.mk (RA.out.below hb); clear RA; have RA := T1_; clear T1_; have T1_ := Aside0.mk (RB.out.below hb); clear RB; have RB := T1_; clear T1_; have T1_ := Aside0.mk (RC.out.below hb); clear RC; have RC := T1_; clear T1_; have T1_ := Aside0.mk (RD.out.below hb); clear RD; have RD := T1_; clear T1_; have T1_ := Aside0.mk (below_step HB.out hb); clear HB; have HB := T1_; clear T1_; have RM := Aside0.mk hr; have CRM := Aside0.mk hc; clear hc hr hb) | (go_at_call 38; (with_reducible refine (sum_is Q3.out.row Q3.out.len Q3.out.cap (E8.out.tms k) LJ.out).mono ?_); rintro e w_ ⟨ARQ, cRQ, rfl, hc, hr, hb⟩; have T1_ := Aside0.mk (Q1.out.below hb); clear Q1; have Q1 := T1_; clear T1_; have T1_ := Aside0.mk (Q2.out.below hb); clear Q2; have Q2 := T1_; clear T1_; have T1_ := Aside0.mk (Q3.out.below hb); clear Q3; have Q3 := T1_; clear T1_; have T1_ := Aside0.mk (W4.out.below hb); clear W4; have W4 := T1_; clear T1_; have T1_ := Aside0.mk (W5.out.below hb); clear W5; have W5 := T1_; clear T1_; have T1_ := Aside0.mk (RS.out.below hb); clear RS; have RS := T1_; clear T1_; have T1_ := Aside0.mk (RU.out.below hb); clear RU; have RU := T1_; clear T1_; have T1_ := Aside0.mk (RA.out.below hb); clear RA; have RA := T1_; clear T1_; have T1_ := Aside0.mk (RB.out.below hb); clear RB; have RB := T1_; clear T1_; have T1_ := Aside0.mk (RC.out.below hb); clear RC; have RC := T1_; clear T1_; have T1_ := Aside0.mk (RD.out.below hb); clear RD; have RD := T1_; clear T1_; have T1_ := Aside0.mk (RM.out.below hb); clear RM; have RM := T1_; clear T1_; have T1_ := Aside0.mk (below_step HB.out hb); clear HB; have HB := T1_; clear T1_; have RQ := Aside0.mk hr; have CRQ := Aside0.mk hc; clear hc hr hb) | (go_at_call 37; (with_reducible refine (same_n true RS.out CRS.out RU.out CRU.out (by decide) QE1.out).mono ?_); rintro e w_ ⟨rfl, hb⟩; have T1_ := Aside0.mk (Q1.out.below hb); clear Q1; have Q1 := T1_; clear T1_; have T1_ := Aside0.mk (Q2.out.below hb); clear Q2; have Q2 := T1_; clear T1_; have T1_ := Aside0.mk (Q3.out.below hb); clear Q3; have Q3 := T1_; clear T1_; have T1_ := Aside0.mk (W4.out.below hb); clear W4; have W4 := T1_; clear T1_; have T1_ := Aside0.mk (W5.out.below hb); clear W5; have W5 := T1_; clear T1_; have T1_ := Aside0.mk (RS.out.below hb); clear RS; have RS := T1_; clear T1_; have T1_ := Aside0.mk (RU.out.below hb); clear RU; have RU := T1_; clear T1_; have T1_ := Aside0.mk (RA.out.below hb); clear RA; have RA := T1_; clear T1_; have T1_ := Aside0.mk (RB.out.below hb); clear RB; have RB := T1_; clear T1_; have T1_ := Aside0.mk (RC.out.below hb); clear RC; have RC := T1_; clear T1_; have T1_ := Aside0.mk (RD.out.below hb); clear RD; have RD := T1_; clear T1_; have T1_ := Aside0.mk (RM.out.below hb); clear RM; have RM := T1_; clear T1_; have T1_ := Aside0.mk (RQ.out.below hb); clear RQ; have RQ := T1_; clear T1_; have T1_ := Aside0.mk (below_step HB.out hb); clear HB; have HB := T1_; clear T1_; clear hb) | (go_at_call 37; (with_reducible refine (same_n true RS.out CRS.out RC.out CRC.out (by decide) QE2.out).mono ?_); rintro e w_ ⟨rfl, hb⟩; have T1_ := Aside0.mk (Q1.out.below hb); clear Q1; have Q1 := T1_; clear T1_; have T1_ := Aside0.mk (Q2.out.below hb); clear Q2; have Q2 := T1_; clear T1_; have T1_ := Aside0.mk (Q3.out.below hb); clear Q3; have Q3 := T1_; clear T1_; have T1_ := Aside0.mk (W4.out.below hb); clear W4; have W4 := T1_; clear T1_; have T1_ := Aside0.mk (W5.out.below hb); clear W5; have W5 := T1_; clear T1_; have T1_ := Aside0.mk (RS.out.below hb); clear RS; have RS := T1_; clear T1_; have T1_ := Aside0.mk (RU.out.below hb); clear RU; have RU := T1_; clear T1_; have T1_ := Aside0.mk (RA.out.below hb); clear RA; have RA := T1_; clear T1_; have T1_ := Aside0.mk (RB.out.below hb); clear RB; have RB := T1_; clear T1_; have T1_ := Aside0.mk (RC.out.below hb); clear RC; have RC := T1_; clear T1_; have T1_ := Aside0.mk (RD.out.below hb); clear RD; have RD := T1_; clear T1_; have T1_ := Aside0.mk (RM.out.below hb); clear RM; have RM := T1_; clear T1_; have T1_ := Aside0.mk (RQ.out.below hb); clear RQ; have RQ := T1_; clear T1_; have T1_ := Aside0.mk (below_step HB.out hb); clear HB; have HB := T1_; clear T1_; clear hb) | (go_at_call 37; (with_reducible refine (same_n true RD.out CRD.out RA.out CRA.out (by decide) QE3.out).mono ?_); rintro e w_ ⟨rfl, hb⟩; have T1_ := Aside0.mk (Q1.out.below hb); clear Q1; have Q1 := T1_; clear T1_; have T1_ := Aside0.mk (Q2.out.below hb); clear Q2; have Q2 := T1_; clear T1_; have T1_ := Aside0.mk (Q3.out.below hb); clear Q3; have Q3 := T1_; clear T1_; have T1_ := Aside0.mk (W4.out.below hb); clear W4; have W4 := T1_; clear T1_; have T1_ := Aside0.mk (W5.out.below hb); clear W5; have W5 := T1_; clear T1_; have T1_ := Aside0.mk (RS.out.below hb); clear RS; have RS := T1_; clear T1_; have T1_ := Aside0.mk (RU.out.below hb); clear RU; have RU := T1_; clear T1_; have T1_ := Aside0.mk (RA.out.below hb); clear RA; have RA := T1_; clear T1_; have T1_ := Aside0.mk (RB.out.below hb); clear RB; have RB := T1_; clear T1_; have T1_ := Aside0.mk (RC.out.below hb); clear RC; have RC := T1_; clear T1_; have T1_ := Aside0.mk (RD.out.below hb); clear RD; have RD := T1_; clear T1_; have T1_ := Aside0.mk (RM.out.below hb); clear RM; have RM := T1_; clear T1_; have T1_ := Aside0.mk (RQ.out.below hb); clear RQ; have RQ := T1_; clear T1_; have T1_ := Aside0.mk (below_step HB.out hb); clear HB; have HB := T1_; clear T1_; clear hb) | (go_at_call 37; (with_reducible refine (same_n true RM.out CRM.out RQ.out CRQ.out (by decide) QE4.out).mono ?_); rintro e w_ ⟨rfl, hb⟩; have T1_ := Aside0.mk (Q1.out.below hb); clear Q1; have Q1 := T1_; clear T1_; have T1_ := Aside0.mk (Q2.out.below hb); clear Q2; have Q2 := T1_; clear T1_; have T1_ := Aside0.mk (Q3.out.below hb); clear Q3; have Q3 := T1_; clear T1_; have T1_ := Aside0.mk (W4.out.below hb); clear W4; have W4 := T1_; clear T1_; have T1_ := Aside0.mk (W5.out.below hb); clear W5; have W5 := T1_; clear T1_; have T1_ := Aside0.mk (RS.out.below hb); clear RS; have RS := T1_; clear T1_; have T1_ := Aside0.mk (RU.out.below hb); clear RU; have RU := T1_; clear T1_; have T1_ := Aside0.mk (RA.out.below hb); clear RA; have RA := T1_; clear T1_; have T1_ := Aside0.mk (RB.out.below hb); clear RB; have RB := T1_; clear T1_; have T1_ := Aside0.mk (RC.out.below hb); clear RC; have RC := T1_; clear T1_; have T1_ := Aside0.mk (RD.out.below hb); clear RD; have RD := T1_; clear T1_; have T1_ := Aside0.mk (RM.out.below hb); clear RM; have RM := T1_; clear T1_; have T1_ := Aside0.mk (RQ.out.below hb); clear RQ; have RQ := T1_; clear T1_; have T1_ := Aside0.mk (below_step HB.out hb); clear HB; have HB := T1_; clear T1_; clear hb) | (go_at_call 29; (with_reducible refine (sure_is _ (As.LaidG.below HG.out HB.out)).mono ?_); rintro e w_ ⟨rfl, hb⟩; have T1_ := Aside0.mk (below_step HB.out hb); clear HB; have HB := T1_; clear T1_; clear hb))
      go_ret
      exact ⟨rfl, HB.out⟩
end Go.Proofs.YtbfgppecpkfcnaaDoor.Vo
