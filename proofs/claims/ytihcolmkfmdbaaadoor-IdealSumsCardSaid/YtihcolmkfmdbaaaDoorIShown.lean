/-
  ideal.Shown, walked: what is told of a table, or the error.
-/
import Derived.Test.YtihcolmkfmdbaaaDoorIShown1
import Derived.StillTailTactics
import Derived.Deep.RegionWith
import Derived.Deep.RegionHeld3
import Derived.Deep.DeepCutAuto
import Derived.Deep.CutBlock
import Derived.Deep.QuietTactic
import Derived.LoopTactic
import Derived.RegionTactic
import Derived.ChangeAlike
namespace Go.Proofs.YtihcolmkfmdbaaaDoor.It
open Go.RowKit Go.Proofs.YtihcolmkfmdbaaaDoorW.PrintWords Go.Proofs.YtihcolmkfmdbaaaDoorW.PrintLast Go.Proofs.YtihcolmkfmdbaaaDoorW.PrintMore Go.Proofs.YtihcolmkfmdbaaaDoor.Ip Go.Proofs.YtihcolmkfmdbaaaDoor.Ih Go.Proofs.YtihcolmkfmdbaaaDoor.PId

theorem bx_of {w w3 w6 : World} {g3 g6 T : Nat} {sO sP : Value} (e3 : g3 = w.heap.size) (k3 : w3.heap[g3]? = some (.cells #[sO, sP] T (0, 0))) (h3 : Below w.heap.size w w3) (e6 : g6 = w3.heap.size) (k6 : w6.heap[g6]? = some (.cells #[.slice none 0 0, .slice none 0 0] T (0, 0))) (h6 : Below w3.heap.size w3 w6) : Bx w w6 g3 g6 T sO sP :=
  ⟨below_step h3 h6, (h6.block _ (blk_lt k3)).trans k3, k6, by omega, by rw [e6]; exact h3.size, by have := blk_lt k3; omega⟩
theorem put2 {W : World} {g T : Nat} {x y : Value} (h : W.heap[g]? = some (.cells #[x, y] T (0, 0))) (a b : Value) : ((W.setCell ⟨g, 0, none⟩ a).setCell ⟨g, 1, none⟩ b).heap[g]? = some (.cells #[a, b] T (0, 0)) :=
  blk_put (cs := #[a, y]) (blk_put (cs := #[x, y]) h 0 a rfl) 1 b rfl
theorem below2 {w W : World} {g : Nat} (h : Below w.heap.size w W) (hg : w.heap.size ≤ g) (a b : Value) : Below w.heap.size w ((W.setCell ⟨g, 0, none⟩ a).setCell ⟨g, 1, none⟩ b) := below_set (below_set h hg) hg
theorem cell_alloc {W : World} {a : Addr} {v : Value} (h : W.cell? a = some v) (o : Obj) : (W.alloc o).cell? a = some v := pw_cell_below (below_alloc (Below.refl _ _) o) h
theorem frozen_alloc {W : World} {a : Addr} {v : Value} (h : W.cell? a = some v) (hf : W.frozen? a = false) (o : Obj) : (W.alloc o).frozen? a = false := by
  rw [← hf]
  exact World.frozen?_of_block ((below_alloc (Below.refl _ _) o).block _ (World.block_lt_of_cell? W _ h))
theorem step_out {w W : World} {g6 g10 gO n d c2 c3 j : Nat} {B' : Option Addr} {came : List Int} {O : List (List Int)} {P Q : List (List (List Int))} (F : Fit O P n d) (h : Bt w W g6 g10 (.slice (some ⟨gO, 0, none⟩) n c2) (.slice B' n c3) (OJ came O n d j) Q) (hh : hs came j = false) (hd : d ≤ 32) (hj : j < n) (m : Nat) :
    Bt w (((W.alloc (.cells (madeCells #[.int .u32 0] d) 61)).setCell ⟨gO, j, none⟩ (.slice (some ⟨W.heap.size, 0, none⟩) d d)).drewN m) g6 g10 (.slice (some ⟨gO, 0, none⟩) n c2) (.slice B' n c3) (OJ came O n d (j + 1)) Q := by
  have h1 := (h.below (below_alloc (Below.refl _ _) (.cells (madeCells #[.int .u32 0] d) 61))).setO (i := j) (made_row W w.heap.size d hd)
  rw [OJ_out F hj hh] at h1
  exact h1.below (pw_below_drewN (Below.refl _ _) m)
theorem step_pq {w W : World} {g6 g10 gP qb n d c3 m mq j q : Nat} {v0 : Value} {vs : List Hd} {came : List Int} {Q : List (List Int)} {O : List (List Int)} {P : List (List (List Int))} (F : Fit O P n d) (h : Bt w W g6 g10 v0 (.slice (some ⟨gP, 0, none⟩) n c3) Q (PQ came P n d j q)) (ht : TbH W w.heap.size v0 (.slice (some ⟨gP, 0, none⟩) n c3) vs Q (PQ came P n d j q))
    (hv : sl (vs.getD j h0) = .slice (some ⟨qb, 0, none⟩) m mq) (hh : hs came j = hs came (j + 1 + q)) (hd : d ≤ 32) (hj : j < n) (hq : q < n - 1 - j) (k : Nat) :
    Bt w (((W.alloc (.cells (madeCells #[.int .u32 0] d) 61)).setCell ⟨qb, q, none⟩ (.slice (some ⟨W.heap.size, 0, none⟩) d d)).drewN k) g6 g10 v0 (.slice (some ⟨gP, 0, none⟩) n c3) Q (PQ came P n d j (q + 1)) := by
  have hb := below_alloc (Below.refl W.heap.size W) (.cells (madeCells #[.int .u32 0] d) 61)
  have h1 := (h.below hb).setP (i := j) (k := q) (ht.grown (grown_of_below hb none) (fun g e => by cases e)) (by rw [PQ_len F]; exact hj) hv (made_row W w.heap.size d hd)
  rw [PQ_out F hj hq hh] at h1
  exact h1.below (pw_below_drewN (Below.refl _ _) k)
theorem bt_end {w W : World} {g6 g10 n d c2 c3 : Nat} {A' B' : Option Addr} {came : List Int} {O : List (List Int)} {P : List (List (List Int))} (F : Fit O P n d) (h : Bt w W g6 g10 (.slice A' n c2) (.slice B' n c3) (OJ came O n d n) (PJ came P n d n)) :
    RetT (shownO came O n d) (shownP came P n d) .nilIface w (.returned (.tuple [.agg #[.slice A' n c2, .slice B' n c3], .nilIface].toArray)) ((W.setCell ⟨g6, 0, none⟩ (.slice A' n c2)).setCell ⟨g6, 1, none⟩ (.slice B' n c3)) := by
  rw [OJ_end F, PJ_end F] at h
  have h1 := (h.tb.box h.b6 h.l6 (by decide) 0 (.slice A' n c2)).box (blk_put (cs := #[.slice none 0 0, .slice none 0 0]) h.b6 0 (.slice A' n c2) rfl) h.l6 (by decide) 1 (.slice B' n c3)
  obtain ⟨⟨A1, k1, e1, l1, C1⟩, ⟨A2, k2, e2, l2, C2⟩⟩ := h1.C
  have lo : (shownO came O n d).length = n := shownO_len
  have lp : (shownP came P n d).length = n := shownP_len
  injection e1 with e1 e1' e1''
  injection e2 with e2 e2' e2''
  subst e1 e1'' e2 e2''
  refine ⟨A', c2, B', c3, by rw [lo, lp], ⟨C1, rfl, l1⟩, ⟨C2, rfl, l2⟩, below2 h.bel h.l6 _ _⟩
section
variable {w : World} {A B D : Option Addr} {n m k c c' c'' : Nat} {O : List (List Int)} {P : List (List (List Int))} {came : List Int}
set_option maxRecDepth 100000
set_option maxHeartbeats 1000000
theorem shown_ok (d : Nat) (hO : Rs w A n c O) (hP : Ps w B n c' P) (hC : Ns w D k c'' came) (hk : k ≤ 1000) (hf : FitP O P n d) (hp : PlacesP came n) : Calls Tryd.prog 12 #[.agg #[.slice A n c, .slice B n c'], .slice D k c'', .int .i64 d] w (RetT (shownO came O n d) (shownP came P n d) .nilIface w) := by
  have HO := Aside0.mk hO
  have HP := Aside0.mk hP
  have HC := Aside0.mk hC
  have HK := Aside0.mk hk
  have HF := Aside0.mk hf
  have HL := Aside0.mk hp
  obtain ⟨ft, fn, fd⟩ := hf.fit
  have FT := Aside0.mk ft
  have FN := Aside0.mk fn
  have FD := Aside0.mk fd
  clear hO hP hp hC hk ft hf
  go_enter Tryd.func12, Tryd.ntmps12
  go_wp2_with (first | ((with_reducible refine gate_dst (N := 3) rfl ?_); refine box_event ?hg (N := 3) ?hd (cs := #[.slice A n c, .slice B n c']) (t := 32) ?hr ?_; (case hd => rfl); (case hg => rfl); (case hr => first | (go_simp; done) | (go_simp; rfl)); intro g3 hg w3 hbox hb; have E3 := Aside0.mk hg; have K3 := Aside0.mk hbox; have H3 := Aside0.mk hb; clear hg hbox hb) | ((with_reducible refine gate_dst (N := 6) rfl ?_); refine box_event ?hg (N := 6) ?hd (cs := #[.slice none 0 0, .slice none 0 0]) (t := 32) ?hr ?_; (case hd => rfl); (case hg => rfl); (case hr => first | (go_simp; done) | (go_simp; rfl)); intro g6 hg w6 hbox hb; have S := Aside0.mk (bx_of E3.out K3.out H3.out hg hbox hb); clear hg hbox hb E3 K3 H3; have d0 := (blk_cell S.out.b3 0).trans rfl; have d1 := (blk_cell S.out.b3 1).trans rfl; have e0 := (blk_cell S.out.b6 0).trans rfl; have e1 := (blk_cell S.out.b6 1).trans rfl; have f0 := blk_frozen S.out.b6 0; have f1 := blk_frozen S.out.b6 1) | (go_at_call 9; (with_reducible refine (check_c .nilIface n d (HO.out.below S.out.bel) (HP.out.below S.out.bel) (Or.inl ⟨HF.out, rfl⟩)).mono ?_); rintro e w9 ⟨rfl, hb⟩; have S2_ := Aside0.mk (S.out.below hb); clear S; have S := S2_; clear S2_; clear d0 d1 e0 e1 f0 f1; have d0 := (blk_cell S.out.b3 0).trans rfl; have d1 := (blk_cell S.out.b3 1).trans rfl; have e0 := (blk_cell S.out.b6 0).trans rfl; have e1 := (blk_cell S.out.b6 1).trans rfl; have f0 := blk_frozen S.out.b6 0; have f1 := blk_frozen S.out.b6 1) | (go_at_call 28; (with_reducible refine (placed_c .nilIface n (HC.out.below S.out.bel) HK.out (Or.inl ⟨HL.out, rfl⟩)).mono ?_); rintro e w28 ⟨rfl, hb⟩; have S2_ := Aside0.mk (S.out.below hb); clear S; have S := S2_; clear S2_; clear d0 d1 e0 e1 f0 f1; have d0 := (blk_cell S.out.b3 0).trans rfl; have d1 := (blk_cell S.out.b3 1).trans rfl; have e0 := (blk_cell S.out.b6 0).trans rfl; have e1 := (blk_cell S.out.b6 1).trans rfl; have f0 := blk_frozen S.out.b6 0; have f1 := blk_frozen S.out.b6 1) | (go_at_call 29; (with_reducible refine (clone_c FT.out FN.out FD.out (HO.out.below S.out.bel) (HP.out.below S.out.bel) S.out.bel.size).mono ?_); rintro e w29 ⟨A', c2, B', c3, rfl, hT, hb⟩; have T := Aside0.mk hT; have S2_ := Aside0.mk (S.out.below hb); clear S; have S := S2_; clear S2_ hT hb; clear d0 d1 e0 e1 f0 f1; have d0 := (blk_cell S.out.b3 0).trans rfl; have d1 := (blk_cell S.out.b3 1).trans rfl; have e0 := (blk_cell S.out.b6 0).trans rfl; have e1 := (blk_cell S.out.b6 1).trans rfl; have f0 := blk_frozen S.out.b6 0; have f1 := blk_frozen S.out.b6 1) | ((with_reducible refine gate_dst (N := 10) rfl ?_); refine box_event ?hg (N := 10) ?hd (cs := #[.slice none 0 0, .slice none 0 0]) (t := 32) ?hr ?_; (case hd => rfl); (case hg => rfl); (case hr => first | (go_simp; done) | (go_simp; rfl)); intro g10 hg w10 hbox hb; have BT := Aside0.mk (bt_start S.out T.out hg hbox hb); have K10 := Aside0.mk hbox; have q0 := (blk_cell K10.out 0).trans rfl; have q1 := (blk_cell K10.out 1).trans rfl; have p0 := blk_frozen K10.out 0; have p1 := blk_frozen K10.out 1; clear hg hbox hb d0 d1 e0 e1 f0 f1 S T))
  go_loopw [37, 11] (fun v _ wr => ∃ j : Nat, v = .int .i64 j ∧ j ≤ n ∧ Bt w wr g6 g10 (.slice A' n c2) (.slice B' n c3) (OJ came O n d j) (PJ came P n d j)) (fun v _ _ => 100 - (intOf v).toNat)
  case atStart => exact ⟨0, rfl, by omega, BT.out⟩
  case round =>
    clear q0 q1 p0 p1 K10 BT
    obtain ⟨j, rfl, hj, hbt⟩ := hrel
    have BT := Aside0.mk hbt
    clear hbt
    by_cases hlt : j < n
    · have hj64 : j < 64 := by have := FN.out; omega
      cases hh : hs came j with
      | false =>
        have HJ : Aside0 (hs came j = false) := ⟨hh⟩
        clear hh
        have hmk := makes d FD.out
        obtain ⟨gO, uO, eA, cO, fO, _⟩ := BT.out.ownCell (j := j) (by rw [OJ_len FT.out]; exact hlt)
        subst eA
        go_upto_region 12 with (first | (go_at_call 30; (with_reducible refine (has_c false j _ rfl (HC.out.below BT.out.bel) HK.out hj64 HJ.out).mono ?_); rintro e wh ⟨rfl, hb⟩; have B2_ := Aside0.mk (BT.out.below hb); clear BT; have BT := B2_; clear B2_ hb))
        clear cO fO
        go_cut [44] (fun _ wc => Bt w wc g6 g10 (.slice (some ⟨gO, 0, none⟩) n c2) (.slice B' n c3) (OJ came O n d (j + 1)) (PJ came P n d j))
        case first =>
          obtain ⟨gO', uO, eA, cO, fO, _⟩ := BT.out.ownCell (j := j) (by rw [OJ_len FT.out]; exact hlt)
          cases eA
          have q0 := (blk_cell BT.out.b10 0).trans rfl
          have q0a : ∀ o, (wh.alloc o).cell? ⟨g10, 0, none⟩ = some (.slice (some ⟨gO, 0, none⟩) n c2) := fun o => cell_alloc q0 o
          have cOa : ∀ o, (wh.alloc o).cell? ⟨gO, j, none⟩ = some (sl uO) := fun o => cell_alloc cO o
          have fOa : ∀ o, (wh.alloc o).frozen? ⟨gO, j, none⟩ = false := fun o => frozen_alloc cO fO o
          have hj0d : decide ((0 : Int) ≤ j) = true := decide_eq_true (by omega)
          have hjnd : decide ((j : Int) < n) = true := decide_eq_true (by omega)
          go_region
          all_goals go_wp2_with fail
          all_goals go_meet
          all_goals (case rel => exact step_out FT.out BT.out HJ.out FD.out hlt _)
        case rest =>
          have BT := Aside0.mk hcut
          clear hcut
          obtain ⟨vs, gP, Aq, mq, eB, cP, _, _, _⟩ := BT.out.pairCell (j := j) (by rw [PJ_len FT.out]; exact hlt)
          subst eB
          rw [PJ_at FT.out hlt, FT.out.pl j hlt] at cP
          obtain ⟨m, hm⟩ : ∃ m, m = n - 1 - j := ⟨_, rfl⟩
          rw [← hm] at cP
          have q1 := (blk_cell BT.out.b10 1).trans rfl
          have hj0d : decide ((0 : Int) ≤ j) = true := decide_eq_true (by omega)
          have hjnd : decide ((j : Int) < n) = true := decide_eq_true (by omega)
          go_wp2_with fail
          rw [← PQ_zero FT.out hlt] at BT
          go_loopw [56, 12] (fun v _ W => ∃ q : Nat, v = .int .i64 q ∧ q ≤ m ∧ Bt w W g6 g10 (.slice (some ⟨gO, 0, none⟩) n c2) (.slice (some ⟨gP, 0, none⟩) n c3) (OJ came O n d (j + 1)) (PQ came P n d j q)) (fun v _ _ => 100 - (intOf v).toNat)
          case atStart => exact ⟨0, rfl, by omega, BT.out⟩
          case round =>
            clear q1 cP BT
            obtain ⟨q, rfl, hq, hbt⟩ := hrel
            have BT := Aside0.mk hbt
            clear hbt
            by_cases hql : q < m
            · have hq64 : j + 1 + q < 64 := by have := FN.out; omega
              have HI : Aside0 (q < n - 1 - j) := ⟨by omega⟩
              cases hh2 : hs came (j + 1 + q) with
              | false =>
                have HJ2 : Aside0 (hs came (j + 1 + q) = false) := ⟨hh2⟩
                clear hh2
                go_upto_region 17 with (first | (go_at_call 30; (with_reducible refine (has_c false j _ rfl (HC.out.below BT.out.bel) HK.out hj64 HJ.out).mono ?_); rintro e wi ⟨rfl, hb⟩; have B2_ := Aside0.mk (BT.out.below hb); clear BT; have BT := B2_; clear B2_ hb) | (go_at_call 30; (with_reducible refine (has_c false (j + 1 + q) _ (by omega) (HC.out.below BT.out.bel) HK.out hq64 HJ2.out).mono ?_); rintro e wk ⟨rfl, hb⟩; have B2_ := Aside0.mk (BT.out.below hb); clear BT; have BT := B2_; clear B2_ hb))
                obtain ⟨vs, gP', Aq, mq, eB, cP, tH, hv, hqq⟩ := BT.out.pairCell (j := j) (by rw [PQ_len FT.out]; exact hlt)
                cases eB
                rw [PQ_at_len FT.out hlt] at cP hv hqq
                obtain ⟨qb, rfl⟩ := hqq (by omega)
                obtain ⟨uq, cq, fq, _⟩ := tH.pairRow (by rw [PQ_len FT.out]; exact hlt) hv q (by rw [PQ_at_len FT.out hlt]; exact HI.out)
                have TH := Aside0.mk tH
                have HV := Aside0.mk hv
                clear tH hv hqq
                rw [← hm] at cP
                have q1 := (blk_cell BT.out.b10 1).trans rfl
                have q1a : ∀ o, (wk.alloc o).cell? ⟨g10, 1, none⟩ = some (.slice (some ⟨gP, 0, none⟩) n c3) := fun o => cell_alloc q1 o
                have cPa : ∀ o, (wk.alloc o).cell? ⟨gP, j, none⟩ = some (.slice (some ⟨qb, 0, none⟩) m mq) := fun o => cell_alloc cP o
                have cqa : ∀ o, (wk.alloc o).cell? ⟨qb, q, none⟩ = some (sl uq) := fun o => cell_alloc cq o
                have fqa : ∀ o, (wk.alloc o).frozen? ⟨qb, q, none⟩ = false := fun o => frozen_alloc cq fq o
                have hj0d : decide ((0 : Int) ≤ j) = true := decide_eq_true (by omega)
                have hjnd : decide ((j : Int) < n) = true := decide_eq_true (by omega)
                have hq0d : decide ((0 : Int) ≤ q) = true := decide_eq_true (by omega)
                have hqnd : decide ((q : Int) < m) = true := decide_eq_true (by omega)
                go_region
                go_wp2_with fail
                go_roundw
                case rel => exact ⟨q + 1, by go_num, by omega, step_pq FT.out BT.out TH.out HV.out (HJ.out.trans HJ2.out.symm) FD.out hlt HI.out _⟩
                case measure => simp [intOf]; omega
              | true =>
                have HJ2 : Aside0 (hs came (j + 1 + q) = true) := ⟨hh2⟩
                clear hh2
                go_wp2_with (first | (go_at_call 30; (with_reducible refine (has_c false j _ rfl (HC.out.below BT.out.bel) HK.out hj64 HJ.out).mono ?_); rintro e wi ⟨rfl, hb⟩; have B2_ := Aside0.mk (BT.out.below hb); clear BT; have BT := B2_; clear B2_ hb) | (go_at_call 30; (with_reducible refine (has_c true (j + 1 + q) _ (by omega) (HC.out.below BT.out.bel) HK.out hq64 HJ2.out).mono ?_); rintro e wk ⟨rfl, hb⟩; have B2_ := Aside0.mk (BT.out.below hb); clear BT; have BT := B2_; clear B2_ hb))
                go_roundw
                case rel => exact ⟨q + 1, by go_num, by omega, by rw [PQ_in FT.out hlt HI.out (by rw [HJ.out, HJ2.out]; decide)]; exact BT.out⟩
                case measure => simp [intOf]; omega
            · have hqm : q = n - 1 - j := by omega
              subst hqm
              rw [PQ_end FT.out hlt] at BT
              go_wp2_with fail
              go_roundw
              case rel => exact ⟨j + 1, by go_num, by omega, BT.out⟩
              case measure => simp [intOf]; omega
      | true =>
        have HJ : Aside0 (hs came j = true) := ⟨hh⟩
        clear hh
        have hmk := makes d FD.out
        go_upto_region 13 with (first | (go_at_call 30; (with_reducible refine (has_c true j _ rfl (HC.out.below BT.out.bel) HK.out hj64 HJ.out).mono ?_); rintro e wh ⟨rfl, hb⟩; have B2_ := Aside0.mk (BT.out.below hb); clear BT; have BT := B2_; clear B2_ hb))
        have BT2 := Aside0.mk BT.out
        rw [← OJ_in FT.out hlt HJ.out] at BT2
        clear BT
        have BT := BT2
        clear BT2
        obtain ⟨vs, gP, Aq, mq, eB, cP, _, _, _⟩ := BT.out.pairCell (j := j) (by rw [PJ_len FT.out]; exact hlt)
        subst eB
        rw [PJ_at FT.out hlt, FT.out.pl j hlt] at cP
        obtain ⟨m, hm⟩ : ∃ m, m = n - 1 - j := ⟨_, rfl⟩
        rw [← hm] at cP
        have q1 := (blk_cell BT.out.b10 1).trans rfl
        have hj0d : decide ((0 : Int) ≤ j) = true := decide_eq_true (by omega)
        have hjnd : decide ((j : Int) < n) = true := decide_eq_true (by omega)
        go_wp2_with fail
        rw [← PQ_zero FT.out hlt] at BT
        go_loopw [56, 12] (fun v _ W => ∃ q : Nat, v = .int .i64 q ∧ q ≤ m ∧ Bt w W g6 g10 (.slice A' n c2) (.slice (some ⟨gP, 0, none⟩) n c3) (OJ came O n d (j + 1)) (PQ came P n d j q)) (fun v _ _ => 100 - (intOf v).toNat)
        case atStart => exact ⟨0, rfl, by omega, BT.out⟩
        case round =>
          clear q1 cP BT
          obtain ⟨q, rfl, hq, hbt⟩ := hrel
          have BT := Aside0.mk hbt
          clear hbt
          by_cases hql : q < m
          · have hq64 : j + 1 + q < 64 := by have := FN.out; omega
            have HI : Aside0 (q < n - 1 - j) := ⟨by omega⟩
            cases hh2 : hs came (j + 1 + q) with
            | false =>
              have HJ2 : Aside0 (hs came (j + 1 + q) = false) := ⟨hh2⟩
              clear hh2
              go_wp2_with (first | (go_at_call 30; (with_reducible refine (has_c true j _ rfl (HC.out.below BT.out.bel) HK.out hj64 HJ.out).mono ?_); rintro e wi ⟨rfl, hb⟩; have B2_ := Aside0.mk (BT.out.below hb); clear BT; have BT := B2_; clear B2_ hb) | (go_at_call 30; (with_reducible refine (has_c false (j + 1 + q) _ (by omega) (HC.out.below BT.out.bel) HK.out hq64 HJ2.out).mono ?_); rintro e wk ⟨rfl, hb⟩; have B2_ := Aside0.mk (BT.out.below hb); clear BT; have BT := B2_; clear B2_ hb))
              go_roundw
              case rel => exact ⟨q + 1, by go_num, by omega, by rw [PQ_in FT.out hlt HI.out (by rw [HJ.out, HJ2.out]; decide)]; exact BT.out⟩
              case measure => simp [intOf]; omega
            | true =>
              have HJ2 : Aside0 (hs came (j + 1 + q) = true) := ⟨hh2⟩
              clear hh2
              go_upto_region 17 with (first | (go_at_call 30; (with_reducible refine (has_c true j _ rfl (HC.out.below BT.out.bel) HK.out hj64 HJ.out).mono ?_); rintro e wi ⟨rfl, hb⟩; have B2_ := Aside0.mk (BT.out.below hb); clear BT; have BT := B2_; clear B2_ hb) | (go_at_call 30; (with_reducible refine (has_c true (j + 1 + q) _ (by omega) (HC.out.below BT.out.bel) HK.out hq64 HJ2.out).mono ?_); rintro e wk ⟨rfl, hb⟩; have B2_ := Aside0.mk (BT.out.below hb); clear BT; have BT := B2_; clear B2_ hb))
              obtain ⟨vs, gP', Aq, mq, eB, cP, tH, hv, hqq⟩ := BT.out.pairCell (j := j) (by rw [PQ_len FT.out]; exact hlt)
              cases eB
              rw [PQ_at_len FT.out hlt] at cP hv hqq
              obtain ⟨qb, rfl⟩ := hqq (by omega)
              obtain ⟨uq, cq, fq, _⟩ := tH.pairRow (by rw [PQ_len FT.out]; exact hlt) hv q (by rw [PQ_at_len FT.out hlt]; exact HI.out)
              have TH := Aside0.mk tH
              have HV := Aside0.mk hv
              clear tH hv hqq
              rw [← hm] at cP
              have q1 := (blk_cell BT.out.b10 1).trans rfl
              have q1a : ∀ o, (wk.alloc o).cell? ⟨g10, 1, none⟩ = some (.slice (some ⟨gP, 0, none⟩) n c3) := fun o => cell_alloc q1 o
              have cPa : ∀ o, (wk.alloc o).cell? ⟨gP, j, none⟩ = some (.slice (some ⟨qb, 0, none⟩) m mq) := fun o => cell_alloc cP o
              have cqa : ∀ o, (wk.alloc o).cell? ⟨qb, q, none⟩ = some (sl uq) := fun o => cell_alloc cq o
              have fqa : ∀ o, (wk.alloc o).frozen? ⟨qb, q, none⟩ = false := fun o => frozen_alloc cq fq o
              have hj0d : decide ((0 : Int) ≤ j) = true := decide_eq_true (by omega)
              have hjnd : decide ((j : Int) < n) = true := decide_eq_true (by omega)
              have hq0d : decide ((0 : Int) ≤ q) = true := decide_eq_true (by omega)
              have hqnd : decide ((q : Int) < m) = true := decide_eq_true (by omega)
              go_region
              go_wp2_with fail
              go_roundw
              case rel => exact ⟨q + 1, by go_num, by omega, step_pq FT.out BT.out TH.out HV.out (HJ.out.trans HJ2.out.symm) FD.out hlt HI.out _⟩
              case measure => simp [intOf]; omega
          · have hqm : q = n - 1 - j := by omega
            subst hqm
            rw [PQ_end FT.out hlt] at BT
            go_wp2_with fail
            go_roundw
            case rel => exact ⟨j + 1, by go_num, by omega, BT.out⟩
            case measure => simp [intOf]; omega
    · have hjn : j = n := by omega
      subst hjn
      clear hlt hj
      have q0 := (blk_cell BT.out.b10 0).trans rfl
      have q1 := (blk_cell BT.out.b10 1).trans rfl
      have e0 := (blk_cell BT.out.b6 0).trans rfl
      have e1 := (blk_cell BT.out.b6 1).trans rfl
      have f0 := blk_frozen BT.out.b6 0
      have f1 := blk_frozen BT.out.b6 1
      go_wp2
      refine bodyPost_ret (results_list (rs := [.cell 6 32, .tmp 7]) rfl (by simp) (.cell g6 32 #[.slice A' j c2, .slice B' j c3] (0, 0) _ rfl (put2 BT.out.b6 _ _) Tryd.underlying32 rfl (by kernel_rfl) (.tmp .nil))) rfl ?_
      exact bt_end FT.out BT.out
end
end Go.Proofs.YtihcolmkfmdbaaaDoor.It
