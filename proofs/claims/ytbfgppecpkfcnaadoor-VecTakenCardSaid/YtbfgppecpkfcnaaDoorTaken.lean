/-
  The law VecTaken, walked.
-/
import Derived.Test.YtbfgppecpkfcnaaDoorVecCalls
import Derived.StillTailTactics
import Derived.Deep.RegionWith
import Derived.Deep.RegionHeld3
import Derived.Deep.DeepCutAuto
import Derived.Deep.CutBlock
import Derived.Deep.QuietTactic
import Derived.LoopTactic
import Derived.Deep.LoopGhost
namespace Go.Proofs.YtbfgppecpkfcnaaDoor.Vt
open Go.RowKit Go.Proofs.YtbfgppecpkfcnaaDoorW.PrintWords Go.Proofs.YtbfgppecpkfcnaaDoorW.PrintLast Go.Proofs.YtbfgppecpkfcnaaDoorW.PrintMore Go.Proofs.YtbfgppecpkfcnaaDoor.PVec

def inU (l : List Int) : Prop := ∀ x ∈ l, 0 ≤ x ∧ x < 4294967296
theorem sub_self (l : List Int) : List.zipWith Bo.op_sub l l = List.replicate l.length 0 := by
  apply List.ext_getElem
  · simp
  · intro i h1 h2
    simp [Bo.op_sub]
theorem add_zero (l : List Int) (h : inU l) : List.zipWith Bo.op_add l (List.replicate l.length 0) = l := by
  apply List.ext_getElem
  · simp
  · intro i h1 h2
    have := h l[i] (List.getElem_mem h2)
    simp only [List.getElem_zipWith, List.getElem_replicate, Bo.op_add]
    omega
theorem sub_zero (l : List Int) (h : inU l) : List.zipWith Bo.op_sub l (List.replicate l.length 0) = l := by
  apply List.ext_getElem
  · simp
  · intro i h1 h2
    have := h l[i] (List.getElem_mem h2)
    simp only [List.getElem_zipWith, List.getElem_replicate, Bo.op_sub]
    omega
theorem sub_flip (l m : List Int) (h : l.length = m.length) : List.zipWith Bo.op_sub l m = List.zipWith Bo.op_sub (List.replicate l.length 0) (List.zipWith Bo.op_sub m l) := by
  apply List.ext_getElem
  · simp [h]
  · intro i h1 h2
    simp only [List.getElem_zipWith, List.getElem_replicate, Bo.op_sub]
    omega
def mulR (j : Int) (l : List Int) : List Int := List.zipWith (Bo.op_times j) l l
theorem mul_zero (l : List Int) : List.replicate l.length 0 = mulR 0 l := by
  apply List.ext_getElem
  · simp [mulR]
  · intro i h1 h2
    simp [mulR, Bo.op_times]
theorem mul_succ (l : List Int) (j : Nat) : List.zipWith Bo.op_add (mulR j l) l = mulR ((j + 1 : Nat) : Int) l := by
  apply List.ext_getElem
  · simp [mulR]
  · intro i h1 h2
    simp only [mulR, List.getElem_zipWith, Bo.op_times, Bo.op_add]
    have h3 : i < l.length := by simp [mulR] at h2; omega
    have e : ((j + 1 : Nat) : Int) * l[i] = (j : Int) * l[i] + l[i] := by
      rw [show (((j + 1 : Nat) : Int)) = (j : Int) + 1 by omega, Int.add_mul, Int.one_mul]
    rw [e]
    generalize (j : Int) * l[i] = q
    omega
theorem zlen (f : Int → Int → Int) (l m : List Int) (n : Nat) (h : l.length = n) (h' : m.length = n) : (List.zipWith f l m).length = n := by
  rw [List.length_zipWith]; omega
theorem mlen (j : Int) (l : List Int) (n : Nat) (h : l.length = n) : (mulR j l).length = n := zlen _ _ _ _ h h

set_option maxRecDepth 100000 in
set_option maxHeartbeats 1000000 in
theorem taken_walk (x0 x1 x2 x3 x4 x5 y0 y1 y2 y3 y4 y5 k : Int) (hx : inU [x0, x1, x2, x3, x4, x5]) (hk0 : 0 ≤ k) (hk1 : k < 256) (w : World) (hG : As.LaidG w) :
    Calls Tryd.prog 9 #[.agg #[.int .u32 x0, .int .u32 x1, .int .u32 x2, .int .u32 x3, .int .u32 x4, .int .u32 x5], .agg #[.int .u32 y0, .int .u32 y1, .int .u32 y2, .int .u32 y3, .int .u32 y4, .int .u32 y5], .int .u8 k] w fun e w' => e = .returned (.bool true) ∧ Below w.heap.size w w' := by
  have HG := Aside0.mk hG
  clear hG
  have HX := Aside0.mk hx
  clear hx
  go_enter Tryd.func9, Tryd.ntmps9
  go_upto_region 1 with (fail)
  go_cut [7, 8] (fun v7 v8 wc => ∃ A B, v7 = .slice A 6 6 ∧ v8 = .slice B 6 6 ∧ Rn 6 wc A [x0, x1, x2, x3, x4, x5] ∧ Rn 6 wc B [y0, y1, y2, y3, y4, y5] ∧ Below w.heap.size w wc)
  case first =>
    go_quiet (fail)
    go_wp2_with fail
    go_meet
    case rel =>
      have hb : Below w.heap.size w ((w.alloc (.cells #[.int .u32 x0, .int .u32 x1, .int .u32 x2, .int .u32 x3, .int .u32 x4, .int .u32 x5] 53)).alloc (.cells #[.int .u32 y0, .int .u32 y1, .int .u32 y2, .int .u32 y3, .int .u32 y4, .int .u32 y5] 53)) := below_alloc (below_alloc (Below.refl _ _) _) _
      refine ⟨_, _, rfl, rfl, ?_, ?_, ?_⟩
      · refine Rn.below (w := ((w.alloc (.cells #[.int .u32 x0, .int .u32 x1, .int .u32 x2, .int .u32 x3, .int .u32 x4, .int .u32 x5] 53)).alloc (.cells #[.int .u32 y0, .int .u32 y1, .int .u32 y2, .int .u32 y3, .int .u32 y4, .int .u32 y5] 53))) ⟨row_block (T := 53) (fz := (0, 0)) (blk_alloc (blk_new w _) _) (by simp), rfl⟩ (pw_below_drewN (Below.refl _ _) _)
      · refine Rn.below (w := ((w.alloc (.cells #[.int .u32 x0, .int .u32 x1, .int .u32 x2, .int .u32 x3, .int .u32 x4, .int .u32 x5] 53)).alloc (.cells #[.int .u32 y0, .int .u32 y1, .int .u32 y2, .int .u32 y3, .int .u32 y4, .int .u32 y5] 53))) ?_ (pw_below_drewN (Below.refl _ _) _)
        have h := blk_new (w.alloc (.cells #[.int .u32 x0, .int .u32 x1, .int .u32 x2, .int .u32 x3, .int .u32 x4, .int .u32 x5] 53)) (.cells #[.int .u32 y0, .int .u32 y1, .int .u32 y2, .int .u32 y3, .int .u32 y4, .int .u32 y5] 53)
        rw [show (w.alloc (.cells #[.int .u32 x0, .int .u32 x1, .int .u32 x2, .int .u32 x3, .int .u32 x4, .int .u32 x5] 53)).heap.size = w.heap.size + 1 by simp] at h
        exact ⟨row_block (T := 53) (fz := (0, 0)) h (by simp), rfl⟩
      · exact pw_below_drewN hb _
  case rest =>
    obtain ⟨A, B, rfl, rfl, hrx, hry, hb⟩ := hcut
    generalize [x0, x1, x2, x3, x4, x5] = xs at *
    generalize [y0, y1, y2, y3, y4, y5] = ys at *
    have RX := Aside0.mk hrx
    have RY := Aside0.mk hry
    have HB := Aside0.mk hb
    clear hrx hry hb
    go_wp2_with (go_at_call 36; (with_reducible refine (zero_n 6 6 rfl (by decide) _).mono ?_); rintro e w1 ⟨A1, c1, rfl, hc, hr, hb⟩; have T_ := Aside0.mk hr; have TC_ := Aside0.mk hc; have BN := Aside0.mk hb; clear hr hc hb; have T1_ := Aside0.mk (Rn.below RX.out BN.out); clear RX; have RX := T1_; clear T1_; have T1_ := Aside0.mk (Rn.below RY.out BN.out); clear RY; have RY := T1_; clear T1_; have T1_ := Aside0.mk (below_step HB.out BN.out); clear HB; have HB := T1_; clear T1_; clear BN; have RZ := T_; have CZ := TC_; clear T_ TC_)
    go_wp2_with (go_at_call 32; (with_reducible refine (sub_n RX.out (Nat.le_refl 6) RX.out (Nat.le_refl 6) (by decide)).mono ?_); rintro e w2 ⟨A2, c2, rfl, hc, hr, hb⟩; have T_ := Aside0.mk hr; have TC_ := Aside0.mk hc; have BN := Aside0.mk hb; clear hr hc hb; have T1_ := Aside0.mk (Rn.below RX.out BN.out); clear RX; have RX := T1_; clear T1_; have T1_ := Aside0.mk (Rn.below RY.out BN.out); clear RY; have RY := T1_; clear T1_; have T1_ := Aside0.mk (Rn.below RZ.out BN.out); clear RZ; have RZ := T1_; clear T1_; have T1_ := Aside0.mk (below_step HB.out BN.out); clear HB; have HB := T1_; clear T1_; clear BN; have RD := T_; have CD := TC_; clear T_ TC_)
    go_wp2_with (go_at_call 30; (with_reducible refine (add_n RX.out (Nat.le_refl 6) RZ.out CZ.out (by decide)).mono ?_); rintro e w3 ⟨A3, c3, rfl, hc, hr, hb⟩; have T_ := Aside0.mk hr; have TC_ := Aside0.mk hc; have BN := Aside0.mk hb; clear hr hc hb; have T1_ := Aside0.mk (Rn.below RX.out BN.out); clear RX; have RX := T1_; clear T1_; have T1_ := Aside0.mk (Rn.below RY.out BN.out); clear RY; have RY := T1_; clear T1_; have T1_ := Aside0.mk (Rn.below RZ.out BN.out); clear RZ; have RZ := T1_; clear T1_; have T1_ := Aside0.mk (Rn.below RD.out BN.out); clear RD; have RD := T1_; clear T1_; have T1_ := Aside0.mk (below_step HB.out BN.out); clear HB; have HB := T1_; clear T1_; clear BN; have RS := T_; have CS := TC_; clear T_ TC_)
    go_wp2_with (go_at_call 32; (with_reducible refine (sub_n RX.out (Nat.le_refl 6) RZ.out CZ.out (by decide)).mono ?_); rintro e w4 ⟨A4, c4, rfl, hc, hr, hb⟩; have T_ := Aside0.mk hr; have TC_ := Aside0.mk hc; have BN := Aside0.mk hb; clear hr hc hb; have T1_ := Aside0.mk (Rn.below RX.out BN.out); clear RX; have RX := T1_; clear T1_; have T1_ := Aside0.mk (Rn.below RY.out BN.out); clear RY; have RY := T1_; clear T1_; have T1_ := Aside0.mk (Rn.below RZ.out BN.out); clear RZ; have RZ := T1_; clear T1_; have T1_ := Aside0.mk (Rn.below RD.out BN.out); clear RD; have RD := T1_; clear T1_; have T1_ := Aside0.mk (Rn.below RS.out BN.out); clear RS; have RS := T1_; clear T1_; have T1_ := Aside0.mk (below_step HB.out BN.out); clear HB; have HB := T1_; clear T1_; clear BN; have RT := T_; have CT := TC_; clear T_ TC_)
    go_wp2_with (go_at_call 32; (with_reducible refine (sub_n RX.out (Nat.le_refl 6) RY.out (Nat.le_refl 6) (by decide)).mono ?_); rintro e w5 ⟨A5, c5, rfl, hc, hr, hb⟩; have T_ := Aside0.mk hr; have TC_ := Aside0.mk hc; have BN := Aside0.mk hb; clear hr hc hb; have T1_ := Aside0.mk (Rn.below RX.out BN.out); clear RX; have RX := T1_; clear T1_; have T1_ := Aside0.mk (Rn.below RY.out BN.out); clear RY; have RY := T1_; clear T1_; have T1_ := Aside0.mk (Rn.below RZ.out BN.out); clear RZ; have RZ := T1_; clear T1_; have T1_ := Aside0.mk (Rn.below RD.out BN.out); clear RD; have RD := T1_; clear T1_; have T1_ := Aside0.mk (Rn.below RS.out BN.out); clear RS; have RS := T1_; clear T1_; have T1_ := Aside0.mk (Rn.below RT.out BN.out); clear RT; have RT := T1_; clear T1_; have T1_ := Aside0.mk (below_step HB.out BN.out); clear HB; have HB := T1_; clear T1_; clear BN; have RU := T_; have CU := TC_; clear T_ TC_)
    go_wp2_with (go_at_call 32; (with_reducible refine (sub_n RY.out (Nat.le_refl 6) RX.out (Nat.le_refl 6) (by decide)).mono ?_); rintro e w6 ⟨A6, c6, rfl, hc, hr, hb⟩; have T_ := Aside0.mk hr; have TC_ := Aside0.mk hc; have BN := Aside0.mk hb; clear hr hc hb; have T1_ := Aside0.mk (Rn.below RX.out BN.out); clear RX; have RX := T1_; clear T1_; have T1_ := Aside0.mk (Rn.below RY.out BN.out); clear RY; have RY := T1_; clear T1_; have T1_ := Aside0.mk (Rn.below RZ.out BN.out); clear RZ; have RZ := T1_; clear T1_; have T1_ := Aside0.mk (Rn.below RD.out BN.out); clear RD; have RD := T1_; clear T1_; have T1_ := Aside0.mk (Rn.below RS.out BN.out); clear RS; have RS := T1_; clear T1_; have T1_ := Aside0.mk (Rn.below RT.out BN.out); clear RT; have RT := T1_; clear T1_; have T1_ := Aside0.mk (Rn.below RU.out BN.out); clear RU; have RU := T1_; clear T1_; have T1_ := Aside0.mk (below_step HB.out BN.out); clear HB; have HB := T1_; clear T1_; clear BN; have RV := T_; have CV := TC_; clear T_ TC_)
    go_wp2_with (go_at_call 32; (with_reducible refine (sub_n RZ.out CZ.out RV.out CV.out (by decide)).mono ?_); rintro e w7 ⟨A7, c7, rfl, hc, hr, hb⟩; have T_ := Aside0.mk hr; have TC_ := Aside0.mk hc; have BN := Aside0.mk hb; clear hr hc hb; have T1_ := Aside0.mk (Rn.below RX.out BN.out); clear RX; have RX := T1_; clear T1_; have T1_ := Aside0.mk (Rn.below RY.out BN.out); clear RY; have RY := T1_; clear T1_; have T1_ := Aside0.mk (Rn.below RZ.out BN.out); clear RZ; have RZ := T1_; clear T1_; have T1_ := Aside0.mk (Rn.below RD.out BN.out); clear RD; have RD := T1_; clear T1_; have T1_ := Aside0.mk (Rn.below RS.out BN.out); clear RS; have RS := T1_; clear T1_; have T1_ := Aside0.mk (Rn.below RT.out BN.out); clear RT; have RT := T1_; clear T1_; have T1_ := Aside0.mk (Rn.below RU.out BN.out); clear RU; have RU := T1_; clear T1_; have T1_ := Aside0.mk (Rn.below RV.out BN.out); clear RV; have RV := T1_; clear T1_; have T1_ := Aside0.mk (below_step HB.out BN.out); clear HB; have HB := T1_; clear T1_; clear BN; have RW := T_; have CW := TC_; clear T_ TC_)
    go_wp2_with (go_at_call 33; (with_reducible refine (times_n _ RX.out (Nat.le_refl 6) (by decide)).mono ?_); rintro e w8 ⟨A8, c8, rfl, hc, hr, hb⟩; have T_ := Aside0.mk hr; have TC_ := Aside0.mk hc; have BN := Aside0.mk hb; clear hr hc hb; have T1_ := Aside0.mk (Rn.below RX.out BN.out); clear RX; have RX := T1_; clear T1_; have T1_ := Aside0.mk (Rn.below RY.out BN.out); clear RY; have RY := T1_; clear T1_; have T1_ := Aside0.mk (Rn.below RZ.out BN.out); clear RZ; have RZ := T1_; clear T1_; have T1_ := Aside0.mk (Rn.below RD.out BN.out); clear RD; have RD := T1_; clear T1_; have T1_ := Aside0.mk (Rn.below RS.out BN.out); clear RS; have RS := T1_; clear T1_; have T1_ := Aside0.mk (Rn.below RT.out BN.out); clear RT; have RT := T1_; clear T1_; have T1_ := Aside0.mk (Rn.below RU.out BN.out); clear RU; have RU := T1_; clear T1_; have T1_ := Aside0.mk (Rn.below RV.out BN.out); clear RV; have RV := T1_; clear T1_; have T1_ := Aside0.mk (Rn.below RW.out BN.out); clear RW; have RW := T1_; clear T1_; have T1_ := Aside0.mk (below_step HB.out BN.out); clear HB; have HB := T1_; clear T1_; clear BN; have RN := T_; have CN := TC_; clear T_ TC_)
    go_wp2_with (go_at_call 36; (with_reducible refine (zero_n 6 6 rfl (by decide) _).mono ?_); rintro e w9 ⟨A9, c9, rfl, hc, hr, hb⟩; have T_ := Aside0.mk hr; have TC_ := Aside0.mk hc; have BN := Aside0.mk hb; clear hr hc hb; have T1_ := Aside0.mk (Rn.below RX.out BN.out); clear RX; have RX := T1_; clear T1_; have T1_ := Aside0.mk (Rn.below RY.out BN.out); clear RY; have RY := T1_; clear T1_; have T1_ := Aside0.mk (Rn.below RZ.out BN.out); clear RZ; have RZ := T1_; clear T1_; have T1_ := Aside0.mk (Rn.below RD.out BN.out); clear RD; have RD := T1_; clear T1_; have T1_ := Aside0.mk (Rn.below RS.out BN.out); clear RS; have RS := T1_; clear T1_; have T1_ := Aside0.mk (Rn.below RT.out BN.out); clear RT; have RT := T1_; clear T1_; have T1_ := Aside0.mk (Rn.below RU.out BN.out); clear RU; have RU := T1_; clear T1_; have T1_ := Aside0.mk (Rn.below RV.out BN.out); clear RV; have RV := T1_; clear T1_; have T1_ := Aside0.mk (Rn.below RW.out BN.out); clear RW; have RW := T1_; clear T1_; have T1_ := Aside0.mk (Rn.below RN.out BN.out); clear RN; have RN := T1_; clear T1_; have T1_ := Aside0.mk (below_step HB.out BN.out); clear HB; have HB := T1_; clear T1_; clear BN; have RQ := T_; have CQ := TC_; clear T_ TC_)
    have E1 : Aside0 (List.zipWith Bo.op_sub xs xs = List.replicate 6 0) := ⟨by have h := sub_self xs; rwa [RX.out.len] at h⟩
    have E2 : Aside0 (List.zipWith Bo.op_add xs (List.replicate 6 0) = xs) := ⟨by have h := add_zero xs HX.out; rwa [RX.out.len] at h⟩
    have E3 : Aside0 (List.zipWith Bo.op_sub xs (List.replicate 6 0) = xs) := ⟨by have h := sub_zero xs HX.out; rwa [RX.out.len] at h⟩
    have E4 : Aside0 (List.zipWith Bo.op_sub xs ys = List.zipWith Bo.op_sub (List.replicate 6 0) (List.zipWith Bo.op_sub ys xs)) := ⟨by have h := sub_flip xs ys (by rw [RX.out.len, RY.out.len]); rwa [RX.out.len] at h⟩
    have E5 : Aside0 (List.replicate 6 0 = mulR 0 xs) := ⟨by have h := mul_zero xs; rwa [RX.out.len] at h⟩
    go_loopw [25, 26, 27] (fun v25 v26 v27 wr => ∃ (A' : Option Addr) (c' j : Nat), v25 = .slice A' 6 c' ∧ 6 ≤ c' ∧ v26 = .nilIface ∧ v27 = .int .i64 j ∧ (j : Int) ≤ k % 9 ∧ Rn 6 wr A' (mulR j xs) ∧ Below w9.heap.size w9 wr) (fun _ _ i _ => 9 - (intOf i).toNat)
    case atStart => exact ⟨_, _, 0, rfl, CQ.out, rfl, rfl, by omega, by have h := RQ.out; rw [E5.out] at h; exact h, Below.refl _ _⟩
    case round =>
      obtain ⟨AJ, cj, j, rfl, hcj, rfl, rfl, hj, hrj, hbr⟩ := hrel
      have RJ := Aside0.mk hrj
      have CJ := Aside0.mk hcj
      have BR := Aside0.mk hbr
      clear hrj hcj hbr
      by_cases hlt : (j : Int) < k % 9
      · go_wp2_with (go_at_call 30; (with_reducible refine (add_n RJ.out CJ.out (Rn.below RX.out BR.out) (Nat.le_refl 6) (by decide)).mono ?_); rintro e wq ⟨Aq, cq, rfl, hc, hr, hb⟩; have RK := Aside0.mk hr; have CK := Aside0.mk hc; have BK := Aside0.mk hb; clear hr hc hb)
        go_roundw
        case rel => exact ⟨Aq, cq, j + 1, rfl, CK.out, rfl, by go_num, by omega, by have h := RK.out; rw [mul_succ] at h; exact h, below_step BR.out BK.out⟩
        case measure => simp [intOf]; omega
      · have hjk : Aside0 ((j : Int) = k % 9) := ⟨by omega⟩
        have E6 : Aside0 (List.zipWith (Bo.op_times (k % 9)) xs xs = mulR j xs) := ⟨by rw [hjk.out]; rfl⟩
        have T1_ := Aside0.mk (Rn.below RX.out BR.out); clear RX; have RX := T1_; clear T1_
        have T1_ := Aside0.mk (Rn.below RY.out BR.out); clear RY; have RY := T1_; clear T1_
        have T1_ := Aside0.mk (Rn.below RZ.out BR.out); clear RZ; have RZ := T1_; clear T1_
        have T1_ := Aside0.mk (Rn.below RD.out BR.out); clear RD; have RD := T1_; clear T1_
        have T1_ := Aside0.mk (Rn.below RS.out BR.out); clear RS; have RS := T1_; clear T1_
        have T1_ := Aside0.mk (Rn.below RT.out BR.out); clear RT; have RT := T1_; clear T1_
        have T1_ := Aside0.mk (Rn.below RU.out BR.out); clear RU; have RU := T1_; clear T1_
        have T1_ := Aside0.mk (Rn.below RV.out BR.out); clear RV; have RV := T1_; clear T1_
        have T1_ := Aside0.mk (Rn.below RW.out BR.out); clear RW; have RW := T1_; clear T1_
        have T1_ := Aside0.mk (Rn.below RN.out BR.out); clear RN; have RN := T1_; clear T1_
        have T1_ := Aside0.mk (below_step HB.out BR.out); clear HB; have HB := T1_; clear T1_
        go_wp2_with (go_at_call 37; (with_reducible refine (same_n true RD.out CD.out RZ.out CZ.out (by decide) (decide_eq_true E1.out)).mono ?_); rintro e w10 ⟨rfl, hb⟩; have BN := Aside0.mk hb; clear hb; have T1_ := Aside0.mk (Rn.below RX.out BN.out); clear RX; have RX := T1_; clear T1_; have T1_ := Aside0.mk (Rn.below RY.out BN.out); clear RY; have RY := T1_; clear T1_; have T1_ := Aside0.mk (Rn.below RZ.out BN.out); clear RZ; have RZ := T1_; clear T1_; have T1_ := Aside0.mk (Rn.below RD.out BN.out); clear RD; have RD := T1_; clear T1_; have T1_ := Aside0.mk (Rn.below RS.out BN.out); clear RS; have RS := T1_; clear T1_; have T1_ := Aside0.mk (Rn.below RT.out BN.out); clear RT; have RT := T1_; clear T1_; have T1_ := Aside0.mk (Rn.below RU.out BN.out); clear RU; have RU := T1_; clear T1_; have T1_ := Aside0.mk (Rn.below RV.out BN.out); clear RV; have RV := T1_; clear T1_; have T1_ := Aside0.mk (Rn.below RW.out BN.out); clear RW; have RW := T1_; clear T1_; have T1_ := Aside0.mk (Rn.below RN.out BN.out); clear RN; have RN := T1_; clear T1_; have T1_ := Aside0.mk (Rn.below RJ.out BN.out); clear RJ; have RJ := T1_; clear T1_; have T1_ := Aside0.mk (below_step HB.out BN.out); clear HB; have HB := T1_; clear T1_; clear BN)
        go_wp2_with (go_at_call 37; (with_reducible refine (same_n true RS.out CS.out RX.out (Nat.le_refl 6) (by decide) (decide_eq_true E2.out)).mono ?_); rintro e w11 ⟨rfl, hb⟩; have BN := Aside0.mk hb; clear hb; have T1_ := Aside0.mk (Rn.below RX.out BN.out); clear RX; have RX := T1_; clear T1_; have T1_ := Aside0.mk (Rn.below RY.out BN.out); clear RY; have RY := T1_; clear T1_; have T1_ := Aside0.mk (Rn.below RZ.out BN.out); clear RZ; have RZ := T1_; clear T1_; have T1_ := Aside0.mk (Rn.below RD.out BN.out); clear RD; have RD := T1_; clear T1_; have T1_ := Aside0.mk (Rn.below RS.out BN.out); clear RS; have RS := T1_; clear T1_; have T1_ := Aside0.mk (Rn.below RT.out BN.out); clear RT; have RT := T1_; clear T1_; have T1_ := Aside0.mk (Rn.below RU.out BN.out); clear RU; have RU := T1_; clear T1_; have T1_ := Aside0.mk (Rn.below RV.out BN.out); clear RV; have RV := T1_; clear T1_; have T1_ := Aside0.mk (Rn.below RW.out BN.out); clear RW; have RW := T1_; clear T1_; have T1_ := Aside0.mk (Rn.below RN.out BN.out); clear RN; have RN := T1_; clear T1_; have T1_ := Aside0.mk (Rn.below RJ.out BN.out); clear RJ; have RJ := T1_; clear T1_; have T1_ := Aside0.mk (below_step HB.out BN.out); clear HB; have HB := T1_; clear T1_; clear BN)
        go_wp2_with (go_at_call 37; (with_reducible refine (same_n true RT.out CT.out RX.out (Nat.le_refl 6) (by decide) (decide_eq_true E3.out)).mono ?_); rintro e w12 ⟨rfl, hb⟩; have BN := Aside0.mk hb; clear hb; have T1_ := Aside0.mk (Rn.below RX.out BN.out); clear RX; have RX := T1_; clear T1_; have T1_ := Aside0.mk (Rn.below RY.out BN.out); clear RY; have RY := T1_; clear T1_; have T1_ := Aside0.mk (Rn.below RZ.out BN.out); clear RZ; have RZ := T1_; clear T1_; have T1_ := Aside0.mk (Rn.below RD.out BN.out); clear RD; have RD := T1_; clear T1_; have T1_ := Aside0.mk (Rn.below RS.out BN.out); clear RS; have RS := T1_; clear T1_; have T1_ := Aside0.mk (Rn.below RT.out BN.out); clear RT; have RT := T1_; clear T1_; have T1_ := Aside0.mk (Rn.below RU.out BN.out); clear RU; have RU := T1_; clear T1_; have T1_ := Aside0.mk (Rn.below RV.out BN.out); clear RV; have RV := T1_; clear T1_; have T1_ := Aside0.mk (Rn.below RW.out BN.out); clear RW; have RW := T1_; clear T1_; have T1_ := Aside0.mk (Rn.below RN.out BN.out); clear RN; have RN := T1_; clear T1_; have T1_ := Aside0.mk (Rn.below RJ.out BN.out); clear RJ; have RJ := T1_; clear T1_; have T1_ := Aside0.mk (below_step HB.out BN.out); clear HB; have HB := T1_; clear T1_; clear BN)
        go_wp2_with (go_at_call 37; (with_reducible refine (same_n true RU.out CU.out RW.out CW.out (by decide) (decide_eq_true E4.out)).mono ?_); rintro e w13 ⟨rfl, hb⟩; have BN := Aside0.mk hb; clear hb; have T1_ := Aside0.mk (Rn.below RX.out BN.out); clear RX; have RX := T1_; clear T1_; have T1_ := Aside0.mk (Rn.below RY.out BN.out); clear RY; have RY := T1_; clear T1_; have T1_ := Aside0.mk (Rn.below RZ.out BN.out); clear RZ; have RZ := T1_; clear T1_; have T1_ := Aside0.mk (Rn.below RD.out BN.out); clear RD; have RD := T1_; clear T1_; have T1_ := Aside0.mk (Rn.below RS.out BN.out); clear RS; have RS := T1_; clear T1_; have T1_ := Aside0.mk (Rn.below RT.out BN.out); clear RT; have RT := T1_; clear T1_; have T1_ := Aside0.mk (Rn.below RU.out BN.out); clear RU; have RU := T1_; clear T1_; have T1_ := Aside0.mk (Rn.below RV.out BN.out); clear RV; have RV := T1_; clear T1_; have T1_ := Aside0.mk (Rn.below RW.out BN.out); clear RW; have RW := T1_; clear T1_; have T1_ := Aside0.mk (Rn.below RN.out BN.out); clear RN; have RN := T1_; clear T1_; have T1_ := Aside0.mk (Rn.below RJ.out BN.out); clear RJ; have RJ := T1_; clear T1_; have T1_ := Aside0.mk (below_step HB.out BN.out); clear HB; have HB := T1_; clear T1_; clear BN)
        go_wp2_with (go_at_call 37; (with_reducible refine (same_n true RN.out CN.out RJ.out CJ.out (by decide) (decide_eq_true E6.out)).mono ?_); rintro e w14 ⟨rfl, hb⟩; have BN := Aside0.mk hb; clear hb; have T1_ := Aside0.mk (Rn.below RX.out BN.out); clear RX; have RX := T1_; clear T1_; have T1_ := Aside0.mk (Rn.below RY.out BN.out); clear RY; have RY := T1_; clear T1_; have T1_ := Aside0.mk (Rn.below RZ.out BN.out); clear RZ; have RZ := T1_; clear T1_; have T1_ := Aside0.mk (Rn.below RD.out BN.out); clear RD; have RD := T1_; clear T1_; have T1_ := Aside0.mk (Rn.below RS.out BN.out); clear RS; have RS := T1_; clear T1_; have T1_ := Aside0.mk (Rn.below RT.out BN.out); clear RT; have RT := T1_; clear T1_; have T1_ := Aside0.mk (Rn.below RU.out BN.out); clear RU; have RU := T1_; clear T1_; have T1_ := Aside0.mk (Rn.below RV.out BN.out); clear RV; have RV := T1_; clear T1_; have T1_ := Aside0.mk (Rn.below RW.out BN.out); clear RW; have RW := T1_; clear T1_; have T1_ := Aside0.mk (Rn.below RN.out BN.out); clear RN; have RN := T1_; clear T1_; have T1_ := Aside0.mk (Rn.below RJ.out BN.out); clear RJ; have RJ := T1_; clear T1_; have T1_ := Aside0.mk (below_step HB.out BN.out); clear HB; have HB := T1_; clear T1_; clear BN)
        go_wp2_with (go_at_call 29; (with_reducible refine (sure_is _ (As.LaidG.below HG.out HB.out)).mono ?_); rintro e w15 ⟨rfl, hb⟩; have BN := Aside0.mk hb; clear hb; have T1_ := Aside0.mk (Rn.below RX.out BN.out); clear RX; have RX := T1_; clear T1_; have T1_ := Aside0.mk (Rn.below RY.out BN.out); clear RY; have RY := T1_; clear T1_; have T1_ := Aside0.mk (Rn.below RZ.out BN.out); clear RZ; have RZ := T1_; clear T1_; have T1_ := Aside0.mk (Rn.below RD.out BN.out); clear RD; have RD := T1_; clear T1_; have T1_ := Aside0.mk (Rn.below RS.out BN.out); clear RS; have RS := T1_; clear T1_; have T1_ := Aside0.mk (Rn.below RT.out BN.out); clear RT; have RT := T1_; clear T1_; have T1_ := Aside0.mk (Rn.below RU.out BN.out); clear RU; have RU := T1_; clear T1_; have T1_ := Aside0.mk (Rn.below RV.out BN.out); clear RV; have RV := T1_; clear T1_; have T1_ := Aside0.mk (Rn.below RW.out BN.out); clear RW; have RW := T1_; clear T1_; have T1_ := Aside0.mk (Rn.below RN.out BN.out); clear RN; have RN := T1_; clear T1_; have T1_ := Aside0.mk (Rn.below RJ.out BN.out); clear RJ; have RJ := T1_; clear T1_; have T1_ := Aside0.mk (below_step HB.out BN.out); clear HB; have HB := T1_; clear T1_; clear BN)
        go_ret
        exact ⟨rfl, HB.out⟩

end Go.Proofs.YtbfgppecpkfcnaaDoor.Vt
