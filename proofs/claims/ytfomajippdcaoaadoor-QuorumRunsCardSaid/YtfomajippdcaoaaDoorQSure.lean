/-
  The fixed run of layer 23's laws ('sure'), walked.
-/
import Derived.Test.YtfomajippdcaoaaDoorTally3
namespace Go.Proofs.YtfomajippdcaoaaDoor.Qu
open Go.RowKit Go.Proofs.YtfomajippdcaoaaDoorW.PrintWords Go.Proofs.YtfomajippdcaoaaDoorW.PrintLast Go.Proofs.YtfomajippdcaoaaDoorW.PrintMore Go.Proofs.YtfomajippdcaoaaDoor.PSet Go.Proofs.YtfomajippdcaoaaDoor.Sc

section
variable {w : World} {av : Nat → Prop} {t : Nat} {who inn gone inn' : List Int} {need left left' : Int}
theorem came_to (id : Int) (v : Value) (hs : Tl w av t who inn gone need left) (hc : errV (acode who inn gone need left id) = v) (hi : (if acode who inn gone need left id = 0 then more inn id else inn) = inn') :
    Calls Tryd.prog 28 #[.pointer (some ⟨t, 0, none⟩), .int .i64 id] w fun e w' => e = .returned v ∧ Tl w' av t who inn' gone need left ∧ w.grownBy w' (some t) := by
  refine (came_is id hs).mono ?_
  rintro e w' ⟨rfl, h1, h2⟩
  rw [hi] at h1
  rw [hc]
  exact ⟨rfl, h1, h2⟩
theorem tick_to (hs : Tl w av t who inn gone need left) (h0 : 0 ≤ left) (h1 : left ≤ 1000) (hl : (if st who inn gone need left = 0 then left - 1 else left) = left') :
    Calls Tryd.prog 26 #[.pointer (some ⟨t, 0, none⟩)] w fun e w' => e = .returned (.tuple #[]) ∧ Tl w' av t who inn gone need left' ∧ w.grownBy w' (some t) := by
  refine (tick_is hs h0 h1).mono ?_
  rintro e w' ⟨rfl, h2, h3⟩
  rw [hl] at h2
  exact ⟨rfl, h2, h3⟩
theorem lacks_to {xs : List Int} (hs : Tl w av t who inn gone need left) (hx : sel (pick 2 who inn) = xs) : Calls Tryd.prog 32 #[.pointer (some ⟨t, 0, none⟩)] w (MadeR xs w) := by
  rw [← hx]
  exact lacks_is hs
end

set_option maxRecDepth 100000 in
set_option maxHeartbeats 1000000 in
theorem sure23 (w : World) (hG : As.LaidG w) : Calls Tryd.prog 33 #[] w (Sc.Told (.bool true) w) := by
  have HG := Aside0.mk hG
  clear hG
  have HB := Aside0.mk (Below.refl w.heap.size w)
  have I0 : Aside0 (inc (-1) [1, 4, 7] = true) := ⟨rfl⟩
  have A1 : Aside0 (errV (acode [1, 4, 7] [] [] 2 2 4) = .nilIface) := ⟨by rw [show acode [1, 4, 7] [] [] 2 2 4 = 0 from by decide +kernel]; rfl⟩
  have B1 : Aside0 ((if acode [1, 4, 7] [] [] 2 2 4 = 0 then more [] 4 else []) = [4]) := ⟨by decide +kernel⟩
  have A2 : Aside0 (errV (acode [1, 4, 7] [4] [] 2 2 4) = .iface 75 (.int .i64 8)) := ⟨by rw [show acode [1, 4, 7] [4] [] 2 2 4 = 8 from by decide +kernel]; rfl⟩
  have B2 : Aside0 ((if acode [1, 4, 7] [4] [] 2 2 4 = 0 then more [4] 4 else [4]) = [4]) := ⟨by decide +kernel⟩
  have A3 : Aside0 (errV (acode [1, 4, 7] [4] [] 2 2 5) = .iface 75 (.int .i64 6)) := ⟨by rw [show acode [1, 4, 7] [4] [] 2 2 5 = 6 from by decide +kernel]; rfl⟩
  have B3 : Aside0 ((if acode [1, 4, 7] [4] [] 2 2 5 = 0 then more [4] 5 else [4]) = [4]) := ⟨by decide +kernel⟩
  have V1 : Aside0 (st [1, 4, 7] [4] [] 2 2 = 0) := ⟨by decide +kernel⟩
  have A4 : Aside0 (errV (acode [1, 4, 7] [4] [] 2 2 1) = .nilIface) := ⟨by rw [show acode [1, 4, 7] [4] [] 2 2 1 = 0 from by decide +kernel]; rfl⟩
  have B4 : Aside0 ((if acode [1, 4, 7] [4] [] 2 2 1 = 0 then more [4] 1 else [4]) = [1, 4]) := ⟨by decide +kernel⟩
  have V2 : Aside0 (st [1, 4, 7] [1, 4] [] 2 2 = 0) := ⟨by decide +kernel⟩
  have L1 : Aside0 ((if st [1, 4, 7] [1, 4] [] 2 2 = 0 then (2 : Int) - 1 else 2) = 1) := ⟨by decide +kernel⟩
  have L2 : Aside0 ((if st [1, 4, 7] [1, 4] [] 2 1 = 0 then (1 : Int) - 1 else 1) = 0) := ⟨by decide +kernel⟩
  have A5 : Aside0 (errV (acode [1, 4, 7] [1, 4] [] 2 0 7) = .iface 75 (.int .i64 9)) := ⟨by rw [show acode [1, 4, 7] [1, 4] [] 2 0 7 = 9 from by decide +kernel]; rfl⟩
  have B5 : Aside0 ((if acode [1, 4, 7] [1, 4] [] 2 0 7 = 0 then more [1, 4] 7 else [1, 4]) = [1, 4]) := ⟨by decide +kernel⟩
  have V3 : Aside0 (st [1, 4, 7] [1, 4] [] 2 0 = 1) := ⟨by decide +kernel⟩
  have SI : Aside0 (SetL [1, 4]) := ⟨by unfold SetL; decide +kernel⟩
  have PX : Aside0 (sel (pick 2 [1, 4, 7] [1, 4]) = [7]) := ⟨by decide +kernel⟩
  go_enter Tryd.func33, Tryd.ntmps33
  go_wp2_with (first | ((with_reducible refine gate_dst (N := 11) rfl ?_); (try (refine gate_guard (by rfl) ?_; dsimp only)); refine Kd.R_lit (Kd.int .i64) _ 3 ?hg (N := 11) ?hd (xs := ([1, 4, 7] : List Int)) (inner := [.int .i64 1, .int .i64 4, .int .i64 7]) (ok := fun _ => True) (okp := fun _ => True) ?hr ?hp (fun _ hk => hk) trivial (Below.refl _ _) (Nat.le_refl _) (by simp) ?_; (case hd => rfl); (case hg => rfl); (case hr => first | (go_simp; done) | (go_simp; rfl)); (case hp => exact (Reps.one (show Kd.M (Kd.int .i64) _ _ _ 1 [.int .i64 1] from rfl) (Reps.one (show Kd.M (Kd.int .i64) _ _ _ 4 [.int .i64 4] from rfl) (Reps.one (show Kd.M (Kd.int .i64) _ _ _ 7 [.int .i64 7] from rfl) (Reps.none _ _))))); intro vL wL hoL hbL _ _; obtain ⟨AL, cL, rfl, hRL⟩ := Gu.Rn.of_Rn (n := 3) hoL rfl; have RL := Aside0.mk hRL; have HBL := Aside0.mk hbL; clear hoL hbL hRL; have T1_ := Aside0.mk (below_step HB.out HBL.out); clear HB; have HB := T1_; clear T1_ HBL) | (go_at_call 34; (with_reducible refine (new_ok 2 2 RL.out (by decide) I0.out (by decide) (by decide) (by decide) (by decide)).mono ?_); rintro e wa ⟨t, rfl, hs, hb, hl⟩; have TL := Aside0.mk hs; have HL := Aside0.mk (Nat.le_trans HB.out.size hl); have T1_ := Aside0.mk (below_step HB.out hb); clear HB; have HB := T1_; clear T1_ hb hs hl RL) | (go_at_call 28; (with_reducible refine (came_to 4 _ TL.out A1.out B1.out).mono ?_); rintro e wa ⟨rfl, hs, hg⟩; clear TL; have TL := Aside0.mk hs; have T1_ := Aside0.mk (Gu.grant_below HB.out hg HL.out); clear HB; have HB := T1_; clear T1_ hs hg) | (go_at_call 28; (with_reducible refine (came_to 4 _ TL.out A2.out B2.out).mono ?_); rintro e wa ⟨rfl, hs, hg⟩; clear TL; have TL := Aside0.mk hs; have T1_ := Aside0.mk (Gu.grant_below HB.out hg HL.out); clear HB; have HB := T1_; clear T1_ hs hg) | (go_at_call 28; (with_reducible refine (came_to 5 _ TL.out A3.out B3.out).mono ?_); rintro e wa ⟨rfl, hs, hg⟩; clear TL; have TL := Aside0.mk hs; have T1_ := Aside0.mk (Gu.grant_below HB.out hg HL.out); clear HB; have HB := T1_; clear T1_ hs hg) | (go_at_call 28; (with_reducible refine (came_to 1 _ TL.out A4.out B4.out).mono ?_); rintro e wa ⟨rfl, hs, hg⟩; clear TL; have TL := Aside0.mk hs; have T1_ := Aside0.mk (Gu.grant_below HB.out hg HL.out); clear HB; have HB := T1_; clear T1_ hs hg) | (go_at_call 28; (with_reducible refine (came_to 7 _ TL.out A5.out B5.out).mono ?_); rintro e wa ⟨rfl, hs, hg⟩; clear TL; have TL := Aside0.mk hs; have T1_ := Aside0.mk (Gu.grant_below HB.out hg HL.out); clear HB; have HB := T1_; clear T1_ hs hg) | (go_at_call 30; (with_reducible refine (state_is _ TL.out V1.out).mono ?_); rintro e wa ⟨rfl, hb⟩; have T1_ := Aside0.mk (TL.out.below hb); clear TL; have TL := T1_; clear T1_; have T1_ := Aside0.mk (below_step HB.out hb); clear HB; have HB := T1_; clear T1_ hb) | (go_at_call 30; (with_reducible refine (state_is _ TL.out V2.out).mono ?_); rintro e wa ⟨rfl, hb⟩; have T1_ := Aside0.mk (TL.out.below hb); clear TL; have TL := T1_; clear T1_; have T1_ := Aside0.mk (below_step HB.out hb); clear HB; have HB := T1_; clear T1_ hb) | (go_at_call 30; (with_reducible refine (state_is _ TL.out V3.out).mono ?_); rintro e wa ⟨rfl, hb⟩; have T1_ := Aside0.mk (TL.out.below hb); clear TL; have TL := T1_; clear T1_; have T1_ := Aside0.mk (below_step HB.out hb); clear HB; have HB := T1_; clear T1_ hb) | (go_at_call 26; (with_reducible refine (tick_to TL.out (by decide) (by decide) L1.out).mono ?_); rintro e wa ⟨rfl, hs, hg⟩; clear TL; have TL := Aside0.mk hs; have T1_ := Aside0.mk (Gu.grant_below HB.out hg HL.out); clear HB; have HB := T1_; clear T1_ hs hg) | (go_at_call 26; (with_reducible refine (tick_to TL.out (by decide) (by decide) L2.out).mono ?_); rintro e wa ⟨rfl, hs, hg⟩; clear TL; have TL := Aside0.mk hs; have T1_ := Aside0.mk (Gu.grant_below HB.out hg HL.out); clear HB; have HB := T1_; clear T1_ hs hg) | (go_at_call 27; (with_reducible refine (As.num27_some _ _ (As.LaidG.below HG.out HB.out)).mono ?_); rintro e wa ⟨rfl, hb⟩; have T1_ := Aside0.mk (TL.out.below hb); clear TL; have TL := T1_; clear T1_; have T1_ := Aside0.mk (below_step HB.out hb); clear HB; have HB := T1_; clear T1_ hb) | (go_at_call 31; (with_reducible refine (in_is TL.out SI.out).mono ?_); rintro e wa ⟨A1, n1, c1, rfl, hr, hb⟩; have RI := Aside0.mk hr; clear hr; have T1_ := Aside0.mk (TL.out.below hb); clear TL; have TL := T1_; clear T1_; have T1_ := Aside0.mk (below_step HB.out hb); clear HB; have HB := T1_; clear T1_ hb) | (go_at_call 32; (with_reducible refine (lacks_to TL.out PX.out).mono ?_); rintro e wa ⟨A1, n1, c1, rfl, hr, hb⟩; have RI := Aside0.mk hr; clear hr; have T1_ := Aside0.mk (TL.out.below hb); clear TL; have TL := T1_; clear T1_; have T1_ := Aside0.mk (below_step HB.out hb); clear HB; have HB := T1_; clear T1_ hb) | ((with_reducible refine gate_dst (N := 76) rfl ?_); (try (refine gate_guard (by rfl) ?_; dsimp only)); refine Kd.R_lit (Kd.int .i64) _ 3 ?hg (N := 76) ?hd (xs := ([1, 4] : List Int)) (inner := [.int .i64 1, .int .i64 4]) (ok := fun _ => True) (okp := fun _ => True) ?hr ?hp (fun _ hk => hk) trivial (Below.refl _ _) (Nat.le_refl _) (by simp) ?_; (case hd => rfl); (case hg => rfl); (case hr => first | (go_simp; done) | (go_simp; rfl)); (case hp => exact (Reps.one (show Kd.M (Kd.int .i64) _ _ _ 1 [.int .i64 1] from rfl) (Reps.one (show Kd.M (Kd.int .i64) _ _ _ 4 [.int .i64 4] from rfl) (Reps.none _ _)))); intro vL wL hoL hbL _ _; obtain ⟨AL, cL, rfl, hRL⟩ := Gu.Rn.of_Rn (n := 2) hoL rfl; have RL := Aside0.mk hRL; have HBL := Aside0.mk hbL; clear hoL hbL hRL; have T1_ := Aside0.mk (TL.out.below HBL.out); clear TL; have TL := T1_; clear T1_; have T1_ := Aside0.mk (Rn.below RI.out HBL.out); clear RI; have RI := T1_; clear T1_; have T1_ := Aside0.mk (below_step HB.out HBL.out); clear HB; have HB := T1_; clear T1_ HBL) | ((with_reducible refine gate_dst (N := 82) rfl ?_); (try (refine gate_guard (by rfl) ?_; dsimp only)); refine Kd.R_lit (Kd.int .i64) _ 3 ?hg (N := 82) ?hd (xs := ([7] : List Int)) (inner := [.int .i64 7]) (ok := fun _ => True) (okp := fun _ => True) ?hr ?hp (fun _ hk => hk) trivial (Below.refl _ _) (Nat.le_refl _) (by simp) ?_; (case hd => rfl); (case hg => rfl); (case hr => first | (go_simp; done) | (go_simp; rfl)); (case hp => exact (Reps.one (show Kd.M (Kd.int .i64) _ _ _ 7 [.int .i64 7] from rfl) (Reps.none _ _))); intro vL wL hoL hbL _ _; obtain ⟨AL, cL, rfl, hRL⟩ := Gu.Rn.of_Rn (n := 1) hoL rfl; have RL := Aside0.mk hRL; have HBL := Aside0.mk hbL; clear hoL hbL hRL; have T1_ := Aside0.mk (TL.out.below HBL.out); clear TL; have TL := T1_; clear T1_; have T1_ := Aside0.mk (Rn.below RI.out HBL.out); clear RI; have RI := T1_; clear T1_; have T1_ := Aside0.mk (below_step HB.out HBL.out); clear HB; have HB := T1_; clear T1_ HBL) | (go_at_call 39; (with_reducible refine (ints23_is true RI.out (by have := RI.out.len; simp at this; omega) RL.out (decide_eq_true rfl)).mono ?_); rintro e wa ⟨rfl, hb⟩; clear RI RL; have T1_ := Aside0.mk (TL.out.below hb); clear TL; have TL := T1_; clear T1_; have T1_ := Aside0.mk (below_step HB.out hb); clear HB; have HB := T1_; clear T1_ hb))
  go_ret
  exact ⟨rfl, HB.out⟩
end Go.Proofs.YtfomajippdcaoaaDoor.Qu
