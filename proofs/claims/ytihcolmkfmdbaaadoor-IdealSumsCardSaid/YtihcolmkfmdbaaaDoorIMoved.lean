/-
  ideal.Moved, walked: the table that hides other rows, or the error.
-/
import Derived.Test.YtihcolmkfmdbaaaDoorIShown
import Derived.Test.YtihcolmkfmdbaaaDoorIMoved0
namespace Go.Proofs.YtihcolmkfmdbaaaDoor.It
open Go.RowKit Go.Proofs.YtihcolmkfmdbaaaDoorW.PrintWords Go.Proofs.YtihcolmkfmdbaaaDoorW.PrintLast Go.Proofs.YtihcolmkfmdbaaaDoorW.PrintMore Go.Proofs.YtihcolmkfmdbaaaDoor.Ip Go.Proofs.YtihcolmkfmdbaaaDoor.Ih Go.Proofs.YtihcolmkfmdbaaaDoor.PId
set_option linter.unusedSimpArgs false
set_option linter.unusedVariables false
attribute [local go_sem] max2_int min2_int max_two min_two max_three min_three max_four min_four   -- for this text's walks alone

theorem mt_end {w W : World} {g6 g10 n d c2 c3 k : Nat} {A' B' : Option Addr} {came : List Int} {O L K : List (List Int)} {P : List (List (List Int))} (F : Fit O P n d) (hk : came.length ≤ k - 1 + 1) (h : Bt w W g6 g10 (.slice A' n c2) (.slice B' n c3) O (moved (came.take (k - 1 + 1)) P L K n)) :
    RetT O (moved came P L K n) .nilIface w (.returned (.tuple [.agg #[.slice A' n c2, .slice B' n c3], .nilIface].toArray)) ((W.setCell ⟨g6, 0, none⟩ (.slice A' n c2)).setCell ⟨g6, 1, none⟩ (.slice B' n c3)) := by
  rw [List.take_of_length_le hk] at h
  have h1 := (h.tb.box h.b6 h.l6 (by decide) 0 (.slice A' n c2)).box (blk_put (cs := #[.slice none 0 0, .slice none 0 0]) h.b6 0 (.slice A' n c2) rfl) h.l6 (by decide) 1 (.slice B' n c3)
  obtain ⟨⟨A1, k1, e1, l1, C1⟩, ⟨A2, k2, e2, l2, C2⟩⟩ := h1.C
  have lo := F.own
  have lp : (moved came P L K n).length = n := moved_len
  injection e1 with e1 e1' e1''
  injection e2 with e2 e2' e2''
  subst e1 e1'' e2 e2''
  refine ⟨A', c2, B', c3, by rw [lo, lp], ⟨C1, rfl, l1⟩, ⟨C2, rfl, l2⟩, below2 h.bel h.l6 _ _⟩
theorem Ns.at0 {w : World} {D : Option Addr} {k c : Nat} {came : List Int} (h : Ns w D k c came) (hk : 0 < k) : ∃ b off, D = some ⟨b, off, none⟩ ∧ ∀ j, j < k → w.cell? ⟨b, off + j, none⟩ = some (.int .i64 (came.getD j 0)) := by
  obtain ⟨ad, e, _⟩ := Kd.at_int h.row 0 (by omega) (by omega)
  subst e
  have hall : ∀ j, j < k → w.cell? (ad.add j) = some (.int .i64 (came.getD j 0)) := by
    intro j hj
    obtain ⟨ad', e, h1⟩ := Kd.at_int h.row (j : Int) (by omega) (by omega)
    cases e
    rw [Int.toNat_natCast] at h1
    exact h1
  obtain ⟨b, off, spot⟩ := ad
  have hs : spot = none := by
    have h0 := hall 0 hk
    simpa [Addr.add] using World.cell?_spot h0
  subst hs
  refine ⟨b, off, rfl, fun j hj => ?_⟩
  have h0 := hall j hj
  rwa [Go.WideShapes.add_plain] at h0
section
variable {w : World} {A B D E' G : Option Addr} {n m k r r' c c' c'' c3 c4 : Nat} {O L K : List (List Int)} {P : List (List (List Int))} {came : List Int}
set_option maxRecDepth 100000
set_option maxHeartbeats 1000000
theorem moved_no (x : Int) (hO : Rs w A n c O) (hP : Ps w B m c' P) (hC : Ns w D k c'' came) (hL : Rs w E' r c3 L) (hM : Rs w G r' c4 K) (hk : k ≤ 1000) (ha : alikeOut O P came L K = some x) : Calls Tryd.prog 14 #[.agg #[.slice A n c, .slice B m c'], .slice D k c'', .slice E' r c3, .slice G r' c4] w (RetT [] [] (er x) w) := by
  have HO := Aside0.mk hO
  have HP := Aside0.mk hP
  have HC := Aside0.mk hC
  have HL := Aside0.mk hL
  have HM := Aside0.mk hM
  have HA : Aside0 (errW (alikeOut O P came L K) = .iface 63 (.int .i64 x)) := ⟨by rw [ha]; rfl⟩
  have HK := Aside0.mk hk
  clear hO hP hC hL hM hk ha
  go_enter Tryd.func14, Tryd.ntmps14
  go_wp2_with (first | ((with_reducible refine gate_dst (N := 4) rfl ?_); refine box_event ?hg (N := 4) ?hd (cs := #[.slice A n c, .slice B m c']) (t := 32) ?hr ?_; (case hd => rfl); (case hg => rfl); (case hr => first | (go_simp; done) | (go_simp; rfl)); intro g3 hg w3 hbox hb; have E3 := Aside0.mk hg; have K3 := Aside0.mk hbox; have H3 := Aside0.mk hb; clear hg hbox hb) | ((with_reducible refine gate_dst (N := 8) rfl ?_); refine box_event ?hg (N := 8) ?hd (cs := #[.slice none 0 0, .slice none 0 0]) (t := 32) ?hr ?_; (case hd => rfl); (case hg => rfl); (case hr => first | (go_simp; done) | (go_simp; rfl)); intro g6 hg w6 hbox hb; have S := Aside0.mk (bx_of E3.out K3.out H3.out hg hbox hb); clear hg hbox hb E3 K3 H3; have d0 := (blk_cell S.out.b3 0).trans rfl; have d1 := (blk_cell S.out.b3 1).trans rfl; have e0 := (blk_cell S.out.b6 0).trans rfl; have e1 := (blk_cell S.out.b6 1).trans rfl; have f0 := blk_frozen S.out.b6 0; have f1 := blk_frozen S.out.b6 1) | (go_at_call 33; (with_reducible refine (alike_c (.iface 63 (.int .i64 x)) (HO.out.below S.out.bel) (HP.out.below S.out.bel) (HC.out.below S.out.bel) (HL.out.below S.out.bel) (HM.out.below S.out.bel) HK.out HA.out).mono ?_); rintro e w33 ⟨rfl, hb⟩; have S2_ := Aside0.mk (S.out.below hb); clear S; have S := S2_; clear S2_ hb; clear d0 d1 e0 e1 f0 f1; have d0 := (blk_cell S.out.b3 0).trans rfl; have d1 := (blk_cell S.out.b3 1).trans rfl; have e0 := (blk_cell S.out.b6 0).trans rfl; have e1 := (blk_cell S.out.b6 1).trans rfl; have f0 := blk_frozen S.out.b6 0; have f1 := blk_frozen S.out.b6 1))
  refine bodyPost_ret (results_list (rs := [.cell 8 32, .tmp 9]) rfl (by simp) (.cell g6 32 #[.slice none 0 0, .slice none 0 0] (0, 0) _ rfl (put2 S.out.b6 _ _) Tryd.underlying32 rfl (by kernel_rfl) (.tmp .nil))) rfl ?_
  exact ⟨none, 0, none, 0, rfl, ⟨Kd.C_nil _ _, rfl, Nat.le_refl _⟩, ⟨Kd.C_nil _ _, rfl, Nat.le_refl _⟩, below2 S.out.bel S.out.l6 _ _⟩

theorem moved_ok {d : Nat} (hO : Rs w A n c O) (hP : Ps w B n c' P) (hC : Ns w D k c'' came) (hL : Rs w E' n c3 L) (hM : Rs w G n c4 K) (hk : k ≤ 1000) (F : Fit O P n d) (hn : n ≤ 64) (hd : d ≤ 32) (rL : Ip.Rows L n d) (rK : Ip.Rows K n d) (hp : Places came n) (ha : alikeOut O P came L K = none) (hk0 : 0 < k) :
    Calls Tryd.prog 14 #[.agg #[.slice A n c, .slice B n c'], .slice D k c'', .slice E' n c3, .slice G n c4] w (RetT O (moved came P L K n) .nilIface w) := by
  have HO := Aside0.mk hO
  have HP := Aside0.mk hP
  have HC := Aside0.mk hC
  have HL := Aside0.mk hL
  have HM := Aside0.mk hM
  have HA : Aside0 (errW (alikeOut O P came L K) = .nilIface) := ⟨by rw [ha]; rfl⟩
  have HK := Aside0.mk hk
  have FT := Aside0.mk F
  have FN := Aside0.mk hn
  have FD := Aside0.mk hd
  have XL := Aside0.mk rL
  have XK := Aside0.mk rK
  have XP := Aside0.mk hp
  obtain ⟨cb, off, rfl, hcells⟩ := hC.at0 hk0
  have HZ := Aside0.mk hcells
  have HCL := Aside0.mk hC.len
  have HCC := Aside0.mk hC.cap
  clear F rL rK hO hP hC hL hM hk ha hp hn hd hcells
  go_enter Tryd.func14, Tryd.ntmps14
  go_wp2_with (first | ((with_reducible refine gate_dst (N := 4) rfl ?_); refine box_event ?hg (N := 4) ?hd (cs := #[.slice A n c, .slice B n c']) (t := 32) ?hr ?_; (case hd => rfl); (case hg => rfl); (case hr => first | (go_simp; done) | (go_simp; rfl)); intro g3 hg w3 hbox hb; have E3 := Aside0.mk hg; have K3 := Aside0.mk hbox; have H3 := Aside0.mk hb; clear hg hbox hb) | ((with_reducible refine gate_dst (N := 8) rfl ?_); refine box_event ?hg (N := 8) ?hd (cs := #[.slice none 0 0, .slice none 0 0]) (t := 32) ?hr ?_; (case hd => rfl); (case hg => rfl); (case hr => first | (go_simp; done) | (go_simp; rfl)); intro g6 hg w6 hbox hb; have S := Aside0.mk (bx_of E3.out K3.out H3.out hg hbox hb); clear hg hbox hb E3 K3 H3; have d0 := (blk_cell S.out.b3 0).trans rfl; have d1 := (blk_cell S.out.b3 1).trans rfl; have e0 := (blk_cell S.out.b6 0).trans rfl; have e1 := (blk_cell S.out.b6 1).trans rfl; have f0 := blk_frozen S.out.b6 0; have f1 := blk_frozen S.out.b6 1) | (go_at_call 33; (with_reducible refine (alike_c .nilIface (HO.out.below S.out.bel) (HP.out.below S.out.bel) (HC.out.below S.out.bel) (HL.out.below S.out.bel) (HM.out.below S.out.bel) HK.out HA.out).mono ?_); rintro e w33 ⟨rfl, hb⟩; have S2_ := Aside0.mk (S.out.below hb); clear S; have S := S2_; clear S2_ hb; clear d0 d1 e0 e1 f0 f1; have d0 := (blk_cell S.out.b3 0).trans rfl; have d1 := (blk_cell S.out.b3 1).trans rfl; have e0 := (blk_cell S.out.b6 0).trans rfl; have e1 := (blk_cell S.out.b6 1).trans rfl; have f0 := blk_frozen S.out.b6 0; have f1 := blk_frozen S.out.b6 1) | (go_at_call 29; (with_reducible refine (clone_c FT.out FN.out FD.out (HO.out.below S.out.bel) (HP.out.below S.out.bel) S.out.bel.size).mono ?_); rintro e w29 ⟨A', c2, B', c5, rfl, hT, hb⟩; have T := Aside0.mk hT; have S2_ := Aside0.mk (S.out.below hb); clear S; have S := S2_; clear S2_ hT hb; clear d0 d1 e0 e1 f0 f1; have d0 := (blk_cell S.out.b3 0).trans rfl; have d1 := (blk_cell S.out.b3 1).trans rfl; have e0 := (blk_cell S.out.b6 0).trans rfl; have e1 := (blk_cell S.out.b6 1).trans rfl; have f0 := blk_frozen S.out.b6 0; have f1 := blk_frozen S.out.b6 1) | ((with_reducible refine gate_dst (N := 11) rfl ?_); refine box_event ?hg (N := 11) ?hd (cs := #[.slice none 0 0, .slice none 0 0]) (t := 32) ?hr ?_; (case hd => rfl); (case hg => rfl); (case hr => first | (go_simp; done) | (go_simp; rfl)); intro g10 hg w10 hbox hb; have BT := Aside0.mk (bt_start S.out T.out hg hbox hb); have K10 := Aside0.mk hbox; have q0 := (blk_cell K10.out 0).trans rfl; have q1 := (blk_cell K10.out 1).trans rfl; have p0 := blk_frozen K10.out 0; have p1 := blk_frozen K10.out 1; clear hg hbox hb d0 d1 e0 e1 f0 f1 S T))
  · have hk1 : k = 1 := by have := HCC.out; omega
    go_loopw [34] (fun v wr => ∃ q : Nat, v = .int .i64 q ∧ q ≤ k - 1 ∧ Bt w wr g6 g10 (.slice A' n c2) (.slice B' n c5) O (moved (came.take (q + 1)) P L K n)) (fun v _ => 2000 - (intOf v).toNat)
    case atStart => exact ⟨0, rfl, by omega, by rw [moved_first FT.out XP.out (by have := HCL.out; omega)]; exact BT.out⟩
    case round =>
      clear q0 q1 p0 p1 K10 BT
      obtain ⟨q, rfl, hq, hbt⟩ := hrel
      have BT := Aside0.mk hbt
      clear hbt
      by_cases hlt : q < k - 1
      · exact absurd hlt (by omega)
      · obtain rfl : q = k - 1 := by omega
        have q0 := (blk_cell BT.out.b10 0).trans rfl
        have q1 := (blk_cell BT.out.b10 1).trans rfl
        have e0 := (blk_cell BT.out.b6 0).trans rfl
        have e1 := (blk_cell BT.out.b6 1).trans rfl
        have f0 := blk_frozen BT.out.b6 0
        have f1 := blk_frozen BT.out.b6 1
        go_wp2
        refine bodyPost_ret (results_list (rs := [.cell 8 32, .tmp 9]) rfl (by simp) (.cell g6 32 #[.slice A' n c2, .slice B' n c5] (0, 0) _ rfl (put2 BT.out.b6 _ _) Tryd.underlying32 rfl (by kernel_rfl) (.tmp .nil))) rfl ?_
        exact mt_end FT.out (by have := HCL.out; omega) BT.out
  · go_loopw [34] (fun v wr => ∃ q : Nat, v = .int .i64 q ∧ q ≤ k - 1 ∧ Bt w wr g6 g10 (.slice A' n c2) (.slice B' n c5) O (moved (came.take (q + 1)) P L K n)) (fun v _ => 2000 - (intOf v).toNat)
    case atStart => exact ⟨0, rfl, by omega, by rw [moved_first FT.out XP.out (by have := HCL.out; omega)]; exact BT.out⟩
    case round =>
      clear q0 q1 p0 p1 K10 BT
      obtain ⟨q, rfl, hq, hbt⟩ := hrel
      have BT := Aside0.mk hbt
      clear hbt
      by_cases hlt : q < k - 1
      · have hk1000 : k ≤ 1000 := HK.out
        have hk1 : q + 1 < came.length := by have := HCL.out; omega
        obtain ⟨i, hi⟩ := Int.eq_ofNat_of_zero_le (XP.out.lo _ (List.getElem_mem hk1)).1
        obtain ⟨f, hf⟩ : ∃ f, fst came n = f := ⟨_, rfl⟩
        obtain ⟨hfi, hin, hrow, hstep⟩ := moved_step (P := P) (L := L) (K := K) XP.out (by omega : 0 < q + 1) hk1 hi hf
        have c1 : wr.cell? ⟨cb, off + 1 + q, none⟩ = some (.int .i64 i) := by
          have h := HZ.out (q + 1) (by omega)
          rw [show off + (q + 1) = off + 1 + q by omega, show came.getD (q + 1) 0 = (i : Int) by simp [List.getD, hk1, hi]] at h
          exact pw_cell_below BT.out.bel h
        have c0 : wr.cell? ⟨cb, off, none⟩ = some (.int .i64 f) := by
          have h := HZ.out 0 (by omega)
          have h00 : 0 < came.length := by omega
          rw [Nat.add_zero, show came.getD 0 0 = (f : Int) by rw [← hf, ← fst_zero XP.out h00]; simp [List.getD, h00]] at h
          exact pw_cell_below BT.out.bel h
        have HF := Aside0.mk hf
        have HR := Aside0.mk hrow
        have HS := Aside0.mk hstep
        clear hf hi hrow hstep hk1
        obtain ⟨adG, Bk, mk, eG, cG, uK⟩ := (HM.out.below BT.out.bel).at_ i hin
        obtain ⟨adL, Bl, ml, eL, cL, uL⟩ := (HL.out.below BT.out.bel).at_ i hin
        cases eG
        cases eL
        rw [XK.out.2 i hin] at cG uK
        rw [XL.out.2 i hin] at cL uL
        have UK := Aside0.mk uK
        have UL := Aside0.mk uL
        clear uK uL
        have hi0d : decide ((0 : Int) ≤ i) = true := decide_eq_true (by omega)
        have hind : decide ((i : Int) < n) = true := decide_eq_true (by omega)
        have hk0d : decide ((0 : Int) < k) = true := decide_eq_true (by omega)
        go_upto_region 9 with (fail)
        go_cut [15, 16] (fun v15 v16 wc => ∃ Ax cx, v15 = .slice Ax d cx ∧ v16 = .nilIface ∧ Aside0 (Us wc Ax d cx (vs (gr K i) (gr L i))) ∧ Aside0 (Below wr.heap.size wr wc))
        case first =>
          have TR := Aside0.mk (Below.refl wr.heap.size wr)
          have KC : Aside0 (∀ W, Below wr.heap.size wr W → W.cell? (adG.add i) = some (.slice Bk d mk) ∧ W.cell? (adL.add i) = some (.slice Bl d ml)) := ⟨fun W hW => ⟨pw_cell_below hW cG, pw_cell_below hW cL⟩⟩
          go_region_held3 (fun W => W.cell? (adG.add i) = some (.slice Bk d mk) ∧ W.cell? (adL.add i) = some (.slice Bl d ml))
            (first | exact KC.out _ (by repeat (first | exact TR.out | apply below_drew1 | apply below_alloc)))
            (first | (go_at_call 34; (with_reducible refine (sub_c (UK.out.below (by repeat (first | exact TR.out | apply below_drew1 | apply below_alloc))) (UL.out.below (by repeat (first | exact TR.out | apply below_drew1 | apply below_alloc))) FD.out).mono ?_); rintro e ws ⟨Ax, cx, rfl, hU, hR, hb⟩; have TX := Aside0.mk (below_step (by repeat (first | exact TR.out | apply below_drew1 | apply below_alloc)) hb); clear TR; have TR := TX; clear TX; rw [vs_len (d := d) (by first | exact XK.out.2 i hin) (by first | exact XL.out.2 i hin)] at hU ⊢; have UX := Aside0.mk hU; clear hU hR hb))
          all_goals go_wp2_with fail
          all_goals go_meet
          all_goals (case rel => exact ⟨_, _, rfl, rfl, UX, TR⟩)
        case rest =>
          obtain ⟨Ax, cx, rfl, rfl, UX, BX⟩ := hcut
          clear cG cL c0 c1 UK UL
          have BT2 := Aside0.mk (BT.out.below BX.out)
          clear BT
          have BT := BT2
          clear BT2 BX
          go_upto_region 12 with (fail)
          obtain ⟨vs_, gP, Aq, mq, eB, cP, tH, hv, hqq⟩ := BT.out.pairCell (j := f) (by rw [moved_len]; omega)
          subst eB
          rw [moved_rowlen (by omega)] at cP hv hqq
          obtain ⟨qb, rfl⟩ := hqq (by omega)
          obtain ⟨x, hx⟩ : ∃ x, x = i - f - 1 := ⟨_, rfl⟩
          rw [← hx] at HR HS
          obtain ⟨uq, cq, fq, rq⟩ := tH.pairRow (by rw [moved_len]; omega) hv x (by rw [moved_rowlen (by omega)]; omega)
          obtain ⟨Ba, nb, cb2⟩ := uq
          obtain ⟨q1, q2, q3⟩ := rq.value
          rw [HR.out, FT.out.rl f (by omega) x (by omega)] at q1
          have q1 := q1.symm
          subst q1
          rw [HR.out] at q3
          have UQ := Aside0.mk (Us.mk q3 (FT.out.rl f (by omega) x (by omega)) q2)
          clear rq q3
          have cq : wc.cell? ⟨qb, x, none⟩ = some (.slice Ba d cb2) := cq
          have TH := Aside0.mk tH
          have HV := Aside0.mk hv
          obtain ⟨m, hm⟩ : ∃ m, m = n - 1 - f := ⟨_, rfl⟩
          rw [← hm] at cP HV
          clear tH hv q2
          have XM : Aside0 (x < m) := ⟨by omega⟩
          have XF : Aside0 (f < n) := ⟨by omega⟩
          have hw1 : wrap64 ((i : Int) - (f : Int)) = (i : Int) - (f : Int) := wrap64_in' _ (by have := FN.out; omega) (by have := FN.out; omega)
          have hw2 : wrap64 ((i : Int) - (f : Int) - 1) = (x : Int) := by rw [wrap64_in' _ (by have := FN.out; omega) (by have := FN.out; omega)]; omega
          have hf0d : decide ((0 : Int) ≤ f) = true := decide_eq_true (by omega)
          have hfnd : decide ((f : Int) < n) = true := decide_eq_true (by omega)
          have hx0d : decide ((0 : Int) ≤ x) = true := decide_eq_true (by omega)
          have HXX := Aside0.mk hx
          have HMM := Aside0.mk hm
          clear hx hm
          have hfn : f < n := XF.out
          have hxm : x < m := XM.out
          have hxnd : decide ((x : Int) < m) = true := decide_eq_true (by omega)
          have BT3 := Aside0.mk (BT.out.below (below_drew (Below.refl wc.heap.size wc)))
          have UX3 := Aside0.mk (UX.out.below (below_drew (Below.refl wc.heap.size wc)))
          have UQ3 := Aside0.mk (UQ.out.below (below_drew (Below.refl wc.heap.size wc)))
          have TH3 := Aside0.mk (TH.out.grown (grown_of_below (below_drew (Below.refl wc.heap.size wc)) none) (fun g e => by cases e))
          have HS3 : Aside0 (wc.drew.cell? ⟨g10, 1, none⟩ = some (.slice (some ⟨gP, 0, none⟩) n c5) ∧ wc.drew.cell? ⟨gP, f, none⟩ = some (.slice (some ⟨qb, 0, none⟩) m mq) ∧ wc.drew.cell? ⟨qb, x, none⟩ = some (.slice Ba d cb2)) := ⟨(blk_cell BT.out.b10 1).trans rfl, cP, cq⟩
          clear BT UX UQ TH cP cq fq
          have BT := BT3
          have UX := UX3
          have UQ := UQ3
          have TH := TH3
          clear BT3 UX3 UQ3 TH3
          refine start_ (n := 28) (S := fun w' => w'.cell? ⟨g10, 1, none⟩ = some (.slice (some ⟨gP, 0, none⟩) n c5) ∧ w'.cell? ⟨gP, f, none⟩ = some (.slice (some ⟨qb, 0, none⟩) m mq) ∧ w'.cell? ⟨qb, x, none⟩ = some (.slice Ba d cb2)) (ds := [26]) #[false, false, false, false, false, false, false, false, false, false, false, false, false, false, false, false, false, false, false, false, false, false, false, false, false, false, false, false] (by kernel_rfl) rfl rfl HS3.out (fun hHeld => ?_)
          generalize wc.drew = wd at BT UX UQ TH HS3 hHeld ⊢
          refine pure_ (i := 0) (N := some 58) (v := ?_) (a' := ?_) #[true, false, false, false, false, false, false, false, false, false, false, false, false, false, false, false, false, false, false, false, false, false, false, false, false, false, false, false] rfl rfl (by kernel_rfl) (fun _ _ _ h => h) (Or.inl ⟨by rfl, ?_⟩) ?_ ?_
          rotate_left
          · intro w'
            go_simp
            with_reducible rfl
          rotate_left
          · simp only [Act.put, List.setIfInBounds_toArray, List.set_cons_zero, List.set_cons_succ, i64_w, i32_w]
            rfl
          refine pure_ (i := 2) (N := some 60) (v := ?_) (a' := ?_) #[true, false, true, false, false, false, false, false, false, false, false, false, false, false, false, false, false, false, false, false, false, false, false, false, false, false, false, false] rfl rfl (by kernel_rfl) (fun _ _ _ h => h) (Or.inl ⟨by rfl, ?_⟩) ?_ ?_
          rotate_left
          · intro w'
            go_simp
            with_reducible rfl
          rotate_left
          · simp only [Act.put, List.setIfInBounds_toArray, List.set_cons_zero, List.set_cons_succ, i64_w, i32_w]
            rfl
          refine pure_ (i := 5) (N := some 63) (v := ?_) (a' := ?_) #[true, false, true, false, false, true, false, false, false, false, false, false, false, false, false, false, false, false, false, false, false, false, false, false, false, false, false, false] rfl rfl (by kernel_rfl) (fun _ _ _ h => h) (Or.inl ⟨by rfl, ?_⟩) ?_ ?_
          rotate_left
          · intro w'
            go_simp
            with_reducible rfl
          rotate_left
          · simp only [Act.put, List.setIfInBounds_toArray, List.set_cons_zero, List.set_cons_succ, i64_w, i32_w]
            rfl
          refine pure_ (i := 6) (N := some 64) (v := ?_) (a' := ?_) #[true, false, true, false, false, true, true, false, false, false, false, false, false, false, false, false, false, false, false, false, false, false, false, false, false, false, false, false] rfl rfl (by kernel_rfl) (fun _ _ _ h => h) (Or.inl ⟨by rfl, ?_⟩) ?_ ?_
          rotate_left
          · intro w'
            go_simp
            with_reducible rfl
          rotate_left
          · simp only [Act.put, List.setIfInBounds_toArray, List.set_cons_zero, List.set_cons_succ, i64_w, i32_w]
            rfl
          refine pure_ (i := 7) (N := some 65) (v := ?_) (a' := ?_) #[true, false, true, false, false, true, true, true, false, false, false, false, false, false, false, false, false, false, false, false, false, false, false, false, false, false, false, false] rfl rfl (by kernel_rfl) (fun _ _ _ h => h) (Or.inl ⟨by rfl, ?_⟩) ?_ ?_
          rotate_left
          · intro w'
            go_simp
            with_reducible rfl
          rotate_left
          · simp only [Act.put, List.setIfInBounds_toArray, List.set_cons_zero, List.set_cons_succ, i64_w, i32_w]
            rfl
          refine pure_ (i := 8) (N := some 66) (v := ?_) (a' := ?_) #[true, false, true, false, false, true, true, true, true, false, false, false, false, false, false, false, false, false, false, false, false, false, false, false, false, false, false, false] rfl rfl (by kernel_rfl) (fun _ _ _ h => h) (Or.inl ⟨by rfl, ?_⟩) ?_ ?_
          rotate_left
          · intro w'
            go_simp
            with_reducible rfl
          rotate_left
          · simp only [Act.put, List.setIfInBounds_toArray, List.set_cons_zero, List.set_cons_succ, i64_w, i32_w]
            rfl
          refine pure_ (i := 9) (N := some 67) (v := ?_) (a' := ?_) #[true, false, true, false, false, true, true, true, true, true, false, false, false, false, false, false, false, false, false, false, false, false, false, false, false, false, false, false] rfl rfl (by kernel_rfl) (fun _ _ _ h => h) (Or.inl ⟨by rfl, ?_⟩) ?_ ?_
          rotate_left
          · intro w'
            go_simp
            with_reducible rfl
          rotate_left
          · simp only [Act.put, List.setIfInBounds_toArray, List.set_cons_zero, List.set_cons_succ, i64_w, i32_w]
            rfl
          refine pure_ (i := 11) (N := some 69) (v := ?_) (a' := ?_) #[true, false, true, false, false, true, true, true, true, true, false, true, false, false, false, false, false, false, false, false, false, false, false, false, false, false, false, false] rfl rfl (by kernel_rfl) (fun _ _ _ h => h) (Or.inl ⟨by rfl, ?_⟩) ?_ ?_
          rotate_left
          · intro w'
            go_simp
            with_reducible rfl
          rotate_left
          · simp only [Act.put, List.setIfInBounds_toArray, List.set_cons_zero, List.set_cons_succ, i64_w, i32_w]
            rfl
          refine pure_ (i := 14) (N := some 72) (v := ?_) (a' := ?_) #[true, false, true, false, false, true, true, true, true, true, false, true, false, false, true, false, false, false, false, false, false, false, false, false, false, false, false, false] rfl rfl (by kernel_rfl) (fun _ _ _ h => h) (Or.inl ⟨by rfl, ?_⟩) ?_ ?_
          rotate_left
          · intro w'
            go_simp
            with_reducible rfl
          rotate_left
          · simp only [Act.put, List.setIfInBounds_toArray, List.set_cons_zero, List.set_cons_succ, i64_w, i32_w]
            rfl
          refine pure_ (i := 15) (N := some 73) (v := ?_) (a' := ?_) #[true, false, true, false, false, true, true, true, true, true, false, true, false, false, true, true, false, false, false, false, false, false, false, false, false, false, false, false] rfl rfl (by kernel_rfl) (fun _ _ _ h => h) (Or.inl ⟨by rfl, ?_⟩) ?_ ?_
          rotate_left
          · intro w'
            go_simp
            with_reducible rfl
          rotate_left
          · simp only [Act.put, List.setIfInBounds_toArray, List.set_cons_zero, List.set_cons_succ, i64_w, i32_w]
            rfl
          refine pure_ (i := 16) (N := some 74) (v := ?_) (a' := ?_) #[true, false, true, false, false, true, true, true, true, true, false, true, false, false, true, true, true, false, false, false, false, false, false, false, false, false, false, false] rfl rfl (by kernel_rfl) (fun _ _ _ h => h) (Or.inl ⟨by rfl, ?_⟩) ?_ ?_
          rotate_left
          · intro w'
            go_simp
            with_reducible rfl
          rotate_left
          · simp only [Act.put, List.setIfInBounds_toArray, List.set_cons_zero, List.set_cons_succ, i64_w, i32_w]
            rfl
          refine pure_ (i := 17) (N := some 75) (v := ?_) (a' := ?_) #[true, false, true, false, false, true, true, true, true, true, false, true, false, false, true, true, true, true, false, false, false, false, false, false, false, false, false, false] rfl rfl (by kernel_rfl) (fun _ _ _ h => h) (Or.inl ⟨by rfl, ?_⟩) ?_ ?_
          rotate_left
          · intro w'
            go_simp
            with_reducible rfl
          rotate_left
          · simp only [Act.put, List.setIfInBounds_toArray, List.set_cons_zero, List.set_cons_succ, i64_w, i32_w]
            rfl
          refine pure_ (i := 20) (N := some 78) (v := ?_) (a' := ?_) #[true, false, true, false, false, true, true, true, true, true, false, true, false, false, true, true, true, true, false, false, true, false, false, false, false, false, false, false] rfl rfl (by kernel_rfl) (fun _ _ _ h => h) (Or.inl ⟨by rfl, ?_⟩) ?_ ?_
          rotate_left
          · intro w'
            go_simp
            with_reducible rfl
          rotate_left
          · simp only [Act.put, List.setIfInBounds_toArray, List.set_cons_zero, List.set_cons_succ, i64_w, i32_w]
            rfl
          refine take_ (i := 1) (N := some 59) (v := ?_) (a' := ?_) #[true, true, true, false, false, true, true, true, true, true, false, true, false, false, true, true, true, true, false, false, true, false, false, false, false, false, false, false] rfl rfl (by kernel_rfl) (fun _ _ _ h => h) (Or.inl ⟨by rfl, ?_⟩) hHeld ?_ ?_
          rotate_left
          · rintro w' ⟨s0, s1, s2⟩
            go_simp
            with_reducible rfl
          rotate_left
          · simp only [Act.put, List.setIfInBounds_toArray, List.set_cons_zero, List.set_cons_succ, i64_w, i32_w]
            rfl
          refine take_ (i := 10) (N := some 68) (v := ?_) (a' := ?_) #[true, true, true, false, false, true, true, true, true, true, true, true, false, false, true, true, true, true, false, false, true, false, false, false, false, false, false, false] rfl rfl (by kernel_rfl) (fun _ _ _ h => h) (Or.inl ⟨by rfl, ?_⟩) hHeld ?_ ?_
          rotate_left
          · rintro w' ⟨s0, s1, s2⟩
            go_simp
            with_reducible rfl
          rotate_left
          · simp only [Act.put, List.setIfInBounds_toArray, List.set_cons_zero, List.set_cons_succ, i64_w, i32_w]
            rfl
          refine pure_ (i := 3) (N := some 61) (v := ?_) (a' := ?_) #[true, true, true, true, false, true, true, true, true, true, true, true, false, false, true, true, true, true, false, false, true, false, false, false, false, false, false, false] rfl rfl (by kernel_rfl) (fun _ _ _ h => h) (Or.inl ⟨by rfl, ?_⟩) ?_ ?_
          rotate_left
          · intro w'
            go_simp
            with_reducible rfl
          rotate_left
          · simp only [Act.put, List.setIfInBounds_toArray, List.set_cons_zero, List.set_cons_succ, i64_w, i32_w]
            rfl
          refine pure_ (i := 12) (N := some 70) (v := ?_) (a' := ?_) #[true, true, true, true, false, true, true, true, true, true, true, true, true, false, true, true, true, true, false, false, true, false, false, false, false, false, false, false] rfl rfl (by kernel_rfl) (fun _ _ _ h => h) (Or.inl ⟨by rfl, ?_⟩) ?_ ?_
          rotate_left
          · intro w'
            go_simp
            with_reducible rfl
          rotate_left
          · simp only [Act.put, List.setIfInBounds_toArray, List.set_cons_zero, List.set_cons_succ, i64_w, i32_w]
            rfl
          refine take_ (i := 4) (N := some 62) (v := ?_) (a' := ?_) #[true, true, true, true, true, true, true, true, true, true, true, true, true, false, true, true, true, true, false, false, true, false, false, false, false, false, false, false] rfl rfl (by kernel_rfl) (fun _ _ _ h => h) (Or.inl ⟨by rfl, ?_⟩) hHeld ?_ ?_
          rotate_left
          · rintro w' ⟨s0, s1, s2⟩
            go_simp
            with_reducible rfl
          rotate_left
          · simp only [Act.put, List.setIfInBounds_toArray, List.set_cons_zero, List.set_cons_succ, i64_w, i32_w]
            rfl
          refine take_ (i := 13) (N := some 71) (v := ?_) (a' := ?_) #[true, true, true, true, true, true, true, true, true, true, true, true, true, true, true, true, true, true, false, false, true, false, false, false, false, false, false, false] rfl rfl (by kernel_rfl) (fun _ _ _ h => h) (Or.inl ⟨by rfl, ?_⟩) hHeld ?_ ?_
          rotate_left
          · rintro w' ⟨s0, s1, s2⟩
            go_simp
            with_reducible rfl
          rotate_left
          · simp only [Act.put, List.setIfInBounds_toArray, List.set_cons_zero, List.set_cons_succ, i64_w, i32_w]
            rfl
          refine pure_ (i := 18) (N := some 76) (v := ?_) (a' := ?_) #[true, true, true, true, true, true, true, true, true, true, true, true, true, true, true, true, true, true, true, false, true, false, false, false, false, false, false, false] rfl rfl (by kernel_rfl) (fun _ _ _ h => h) (Or.inl ⟨by rfl, ?_⟩) ?_ ?_
          rotate_left
          · intro w'
            go_simp
            with_reducible rfl
          rotate_left
          · simp only [Act.put, List.setIfInBounds_toArray, List.set_cons_zero, List.set_cons_succ, i64_w, i32_w]
            rfl
          refine take_ (i := 19) (N := some 77) (v := ?_) (a' := ?_) #[true, true, true, true, true, true, true, true, true, true, true, true, true, true, true, true, true, true, true, true, true, false, false, false, false, false, false, false] rfl rfl (by kernel_rfl) (fun _ _ _ h => h) (Or.inl ⟨by rfl, ?_⟩) hHeld ?_ ?_
          rotate_left
          · rintro w' ⟨s0, s1, s2⟩
            go_simp
            with_reducible rfl
          rotate_left
          · simp only [Act.put, List.setIfInBounds_toArray, List.set_cons_zero, List.set_cons_succ, i64_w, i32_w]
            rfl
          refine one_ (i := 21) (N := some 79) #[true, true, true, true, true, true, true, true, true, true, true, true, true, true, true, true, true, true, true, true, true, true, false, false, false, false, false, false] rfl rfl (by kernel_rfl) (by decide) (fun K hK => ?_)
          refine goes_ Tryd.func35 (by kernel_rfl) rfl #[.slice Ba d cb2, .slice Ax d cx] (by rfl) rfl rfl (by (try simp only [List.map_toArray, List.map_cons, List.map_nil]); first | done | rfl) ?_
          with_reducible refine (add_c UQ.out UX.out FD.out).mono ?_
          rintro e_ w_ ⟨Ay, cy, rfl, hU, hR, hb⟩
          refine ⟨_, rfl, ?_⟩
          have BT2 := Aside0.mk (BT.out.below hb)
          have TH2 := Aside0.mk (TH.out.grown (grown_of_below hb none) (fun g e => by cases e))
          have cq2 : w_.cell? ⟨qb, x, none⟩ = some (.slice Ba d cb2) := pw_cell_below hb hHeld.2.2
          have hH2 : w_.cell? ⟨g10, 1, none⟩ = some (.slice (some ⟨gP, 0, none⟩) n c5) ∧ w_.cell? ⟨gP, f, none⟩ = some (.slice (some ⟨qb, 0, none⟩) m mq) ∧ w_.cell? ⟨qb, x, none⟩ = some (.slice Ba d cb2) := ⟨pw_cell_below hb hHeld.1, pw_cell_below hb hHeld.2.1, cq2⟩
          rw [va_len (d := d) (UQ.out.len) (UX.out.len)] at hU hR ⊢
          have RN := Aside0.mk (rowIn_R (base := w.heap.size) hR)
          clear hU hR BT TH
          refine hK.out _ _ hH2 (fun hHeld => ?_)
          clear hK K
          refine norm_ (a' := ?_) ?_ ?_
          rotate_left
          · show Act.put _ (some 79) _ = _
            simp only [Act.put, List.setIfInBounds_toArray, List.set_cons_zero, List.set_cons_succ, i64_w, i32_w]
            rfl
          refine pure_ (i := 22) (N := some 57) (v := ?_) (a' := ?_) #[true, true, true, true, true, true, true, true, true, true, true, true, true, true, true, true, true, true, true, true, true, true, true, false, false, false, false, false] rfl rfl (by kernel_rfl) (fun _ _ _ h => h) (Or.inl ⟨by rfl, ?_⟩) ?_ ?_
          rotate_left
          · intro w'
            go_simp
            with_reducible rfl
          rotate_left
          · simp only [Act.put, List.setIfInBounds_toArray, List.set_cons_zero, List.set_cons_succ, i64_w, i32_w]
            rfl
          refine pure_ (i := 23) (N := some 80) (v := ?_) (a' := ?_) #[true, true, true, true, true, true, true, true, true, true, true, true, true, true, true, true, true, true, true, true, true, true, true, true, false, false, false, false] rfl rfl (by kernel_rfl) (fun _ _ _ h => h) (Or.inl ⟨by rfl, ?_⟩) ?_ ?_
          rotate_left
          · intro w'
            go_simp
            with_reducible rfl
          rotate_left
          · simp only [Act.put, List.setIfInBounds_toArray, List.set_cons_zero, List.set_cons_succ, i64_w, i32_w]
            rfl
          refine pure_ (i := 24) (N := some 81) (v := ?_) (a' := ?_) #[true, true, true, true, true, true, true, true, true, true, true, true, true, true, true, true, true, true, true, true, true, true, true, true, true, false, false, false] rfl rfl (by kernel_rfl) (fun _ _ _ h => h) (Or.inl ⟨by rfl, ?_⟩) ?_ ?_
          rotate_left
          · intro w'
            go_simp
            with_reducible rfl
          rotate_left
          · simp only [Act.put, List.setIfInBounds_toArray, List.set_cons_zero, List.set_cons_succ, i64_w, i32_w]
            rfl
          refine pure_ (i := 25) (N := some 82) (v := ?_) (a' := ?_) #[true, true, true, true, true, true, true, true, true, true, true, true, true, true, true, true, true, true, true, true, true, true, true, true, true, true, false, false] rfl rfl (by kernel_rfl) (fun _ _ _ h => h) (Or.inl ⟨by rfl, ?_⟩) ?_ ?_
          rotate_left
          · intro w'
            go_simp
            with_reducible rfl
          rotate_left
          · simp only [Act.put, List.setIfInBounds_toArray, List.set_cons_zero, List.set_cons_succ, i64_w, i32_w]
            rfl
          refine last_ (i := 26) (N := none) #[true, true, true, true, true, true, true, true, true, true, true, true, true, true, true, true, true, true, true, true, true, true, true, true, true, true, true, false] rfl rfl (by kernel_rfl) (by decide) (fun K hK => ?_)
          have BT := BT2
          have TH := TH2
          clear BT2 TH2
          obtain ⟨uq, cqz, fq, _⟩ := TH.out.pairRow (by rw [moved_len]; exact XF.out) HV.out x (by rw [moved_rowlen XF.out, ← HMM.out]; exact XM.out)
          clear cqz
          refine skip_ (w1 := ?_) (by rfl) rfl ?_ ?_
          rotate_left
          · go_simp
            rfl
          refine hK.out _ _ ?_
          clear hK K
          refine pure_ (i := 27) (N := some 16) (v := ?_) (a' := ?_) #[true, true, true, true, true, true, true, true, true, true, true, true, true, true, true, true, true, true, true, true, true, true, true, true, true, true, true, true] rfl rfl (by kernel_rfl) (fun _ _ _ h => h) (Or.inl ⟨by rfl, ?_⟩) ?_ ?_
          rotate_left
          · intro w'
            go_simp
            with_reducible rfl
          rotate_left
          · simp only [Act.put, List.setIfInBounds_toArray, List.set_cons_zero, List.set_cons_succ, i64_w, i32_w]
            rfl
          refine done_ (by kernel_rfl) ?_
          have BE := Aside0.mk (BT.out.setP (k := x) TH.out (by rw [moved_len]; exact XF.out) HV.out RN.out)
          rw [HS.out] at BE
          go_wp2_with fail
          go_roundw
          case rel => exact ⟨q + 1, by go_num, by omega, BE.out⟩
          case measure => simp [intOf]; omega
      · obtain rfl : q = k - 1 := by omega
        have q0 := (blk_cell BT.out.b10 0).trans rfl
        have q1 := (blk_cell BT.out.b10 1).trans rfl
        have e0 := (blk_cell BT.out.b6 0).trans rfl
        have e1 := (blk_cell BT.out.b6 1).trans rfl
        have f0 := blk_frozen BT.out.b6 0
        have f1 := blk_frozen BT.out.b6 1
        go_wp2
        refine bodyPost_ret (results_list (rs := [.cell 8 32, .tmp 9]) rfl (by simp) (.cell g6 32 #[.slice A' n c2, .slice B' n c5] (0, 0) _ rfl (put2 BT.out.b6 _ _) Tryd.underlying32 rfl (by kernel_rfl) (.tmp .nil))) rfl ?_
        exact mt_end FT.out (by have := HCL.out; omega) BT.out

end
end Go.Proofs.YtihcolmkfmdbaaaDoor.It
