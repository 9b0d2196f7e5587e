/-
  The law StandSilent, walked: whatever the numbers are, it answers true.
-/
import Derived.Test.YtfomajippdcaoaaDoorStand
namespace Go.Proofs.YtfomajippdcaoaaDoor.St
open Go.RowKit Go.Proofs.YtfomajippdcaoaaDoorW.PrintWords

/-- the watch made at w0's end, and all that was there as it was -/
def Inv (w0 w : World) (sp li st si : Int) (go : Bool) : Prop := w.heap[w0.heap.size]? = some (WB sp li st si go) ∧ Below w0.heap.size w0 w

theorem inv_new (w : World) (sp li : Int) : Inv w (w.alloc (WB sp li 0 0 false)) sp li 0 0 false := ⟨by show (w.heap.push _)[w.heap.size]? = _; simp, (Below.refl _ _).alloc (Nat.le_refl _) _⟩
theorem inv_cs {w0 w : World} {sp li st si : Int} (h : Inv w0 w sp li st si false) : Cs w0.heap.size w sp li st si := by
  have h1 := h.1
  unfold WB at h1
  simp [Cs, World.cell?, World.frozen?, h1]
theorem inv_go {w0 w : World} {sp li st si : Int} {go : Bool} (h : Inv w0 w sp li st si go) : w.cell? ⟨w0.heap.size, 4, none⟩ = some (.bool go) ∧ w.cell? ⟨w0.heap.size, 2, none⟩ = some (.int .i64 st) := by
  have h1 := h.1
  unfold WB at h1
  simp [World.cell?, h1]
theorem inv_drew {w0 w : World} {sp li st si : Int} {go : Bool} (h : Inv w0 w sp li st si go) (m : Nat) : Inv w0 (w.drewN m) sp li st si go := ⟨h.1, pw_below_drewN h.2 m⟩
theorem inv_set2 {w0 w : World} {sp li st si : Int} {go : Bool} (h : Inv w0 w sp li st si go) (x : Int) : Inv w0 (w.setCell ⟨w0.heap.size, 2, none⟩ (.int .i64 x)) sp li x si go :=
  ⟨blk_set h.1 2 (.int .i64 x), h.2.setCell (p := ⟨w0.heap.size, 2, none⟩) (Nat.le_refl _) _⟩
theorem inv_set3 {w0 w : World} {sp li st si : Int} {go : Bool} (h : Inv w0 w sp li st si go) (x : Int) : Inv w0 (w.setCell ⟨w0.heap.size, 3, none⟩ (.int .i64 x)) sp li st x go :=
  ⟨blk_set h.1 3 (.int .i64 x), h.2.setCell (p := ⟨w0.heap.size, 3, none⟩) (Nat.le_refl _) _⟩
theorem inv_set4 {w0 w : World} {sp li st si : Int} {go : Bool} (h : Inv w0 w sp li st si go) (x : Bool) : Inv w0 (w.setCell ⟨w0.heap.size, 4, none⟩ (.bool x)) sp li st si x :=
  ⟨blk_set h.1 4 (.bool x), h.2.setCell (p := ⟨w0.heap.size, 4, none⟩) (Nat.le_refl _) _⟩

theorem less_inv (w0 : World) (sp li st si : Int) (w : World) (hi : Inv w0 w sp li st si false) (h1 : 0 ≤ si) (h2 : si + 1 < li) (h3 : li ≤ 1000) :
    Calls Tryd.prog 10 #[.pointer (some ⟨w0.heap.size, 0, none⟩)] w fun x w' => x = .returned (.int .i64 0) ∧ Inv w0 w' sp li st (si + 1) false :=
  (tick_less _ sp li st si w (inv_cs hi) h1 h2 h3).mono fun _ _ ⟨e, m, hw⟩ => ⟨e, by rw [hw]; exact inv_drew (inv_set3 hi _) m⟩
theorem next_inv (w0 : World) (sp li st si : Int) (w : World) (hi : Inv w0 w sp li st si false) (h1 : 0 ≤ si) (h2 : li ≤ si + 1) (h3 : si ≤ 1000) (h4 : 0 ≤ st) (h5 : st < sp) (h6 : sp ≤ 2) :
    Calls Tryd.prog 10 #[.pointer (some ⟨w0.heap.size, 0, none⟩)] w fun x w' => x = .returned (.int .i64 1) ∧ Inv w0 w' sp li (st + 1) 0 false :=
  (tick_next _ sp li st si w (inv_cs hi) h1 h2 h3 h4 h5 h6).mono fun _ _ ⟨e, m, hw⟩ => ⟨e, by rw [hw]; exact inv_drew (inv_set3 (inv_set2 (inv_set3 hi _) _) _) m⟩
theorem nobody_inv (w0 : World) (sp li st si : Int) (w : World) (hi : Inv w0 w sp li st si false) (h1 : 0 ≤ si) (h2 : li ≤ si + 1) (h3 : si ≤ 1000) (h5 : sp ≤ st) :
    Calls Tryd.prog 10 #[.pointer (some ⟨w0.heap.size, 0, none⟩)] w fun x w' => x = .returned (.int .i64 2) ∧ Inv w0 w' sp li st (si + 1) true :=
  (tick_nobody _ sp li st si w (inv_cs hi) h1 h2 h3 h5).mono fun _ _ ⟨e, m, hw⟩ => ⟨e, by rw [hw]; exact inv_drew (inv_set4 (inv_set3 hi _) _) m⟩
theorem gonet_inv (w0 : World) (sp li st si : Int) (w : World) (hi : Inv w0 w sp li st si true) :
    Calls Tryd.prog 10 #[.pointer (some ⟨w0.heap.size, 0, none⟩)] w fun x w' => x = .returned (.int .i64 0) ∧ w = w' := tick_gone _ w (inv_go hi).1
theorem heard_inv (w0 : World) (sp li st si : Int) (w : World) (hi : Inv w0 w sp li st si false) :
    Calls Tryd.prog 11 #[.pointer (some ⟨w0.heap.size, 0, none⟩), .int .i64 st] w fun x w' => x = .returned (.bool true) ∧ Inv w0 w' sp li st 0 false := by
  obtain ⟨c0, c1, c2, c3, c4, f2, f3, f4⟩ := inv_cs hi
  exact (heard_it _ st si w c2 c3 f3 c4).mono fun _ _ ⟨e, hw⟩ => ⟨e, by rw [hw]; exact inv_set3 hi _⟩
theorem heardo_inv (w0 : World) (sp li st si a : Int) (w : World) (hi : Inv w0 w sp li st si false) (hn : (a != st) = true) :
    Calls Tryd.prog 11 #[.pointer (some ⟨w0.heap.size, 0, none⟩), .int .i64 a] w fun x w' => x = .returned (.bool false) ∧ w = w' := by
  obtain ⟨c0, c1, c2, c3, c4, f2, f3, f4⟩ := inv_cs hi
  exact heard_other _ a st w c2 c4 hn
theorem heardg_inv (w0 : World) (sp li st si a : Int) (w : World) (hi : Inv w0 w sp li st si true) :
    Calls Tryd.prog 11 #[.pointer (some ⟨w0.heap.size, 0, none⟩), .int .i64 a] w fun x w' => x = .returned (.bool false) ∧ w = w' := heard_gone _ a w (inv_go hi).1
theorem step_inv (w0 : World) (sp li st si : Int) (go : Bool) (w : World) (hi : Inv w0 w sp li st si go) :
    Calls Tryd.prog 12 #[.pointer (some ⟨w0.heap.size, 0, none⟩)] w fun x w' => x = .returned (.int .i64 st) ∧ w = w' := step_is _ st w (inv_go hi).2
theorem gone_inv (w0 : World) (sp li st si : Int) (go : Bool) (w : World) (hi : Inv w0 w sp li st si go) :
    Calls Tryd.prog 13 #[.pointer (some ⟨w0.heap.size, 0, none⟩)] w fun x w' => x = .returned (.bool go) ∧ w = w' := gone_is _ go w (inv_go hi).1

set_option maxHeartbeats 1000000 in
theorem sure_is (w : World) (hG : As.LaidG w) : Calls Tryd.prog 14 #[] w fun x w' => x = .returned (.bool true) ∧ Below w.heap.size w w' := by
  have HG := Lib.hid hG
  clear hG
  go_enter Tryd.func14, Tryd.ntmps14
  go_wp2_with fail
  refine (new_ok 1 2 _ (by decide) (by decide) (by decide) (by decide)).mono ?_
  rintro x w1 ⟨rfl, hw⟩
  have hi : Inv w w1 1 2 0 0 false := by rw [hw]; exact inv_new w 1 2
  clear hw
  have H1 := Lib.hid hi
  clear hi
  go_wp2_with fail
  refine (new_bad 2 _).mono ?_
  rintro x w' ⟨rfl, rfl⟩
  go_wp2_with fail
  refine (less_inv w 1 2 0 0 _ H1.out (by decide) (by decide) (by decide)).mono ?_
  rintro x w2 ⟨rfl, hi⟩
  have H2 := Lib.hid hi
  clear hi
  go_wp2_with fail
  refine (heard_inv w 1 2 0 _ _ H2.out).mono ?_
  rintro x w3 ⟨rfl, hi⟩
  have H3 := Lib.hid hi
  clear hi
  go_wp2_with fail
  refine (less_inv w 1 2 0 0 _ H3.out (by decide) (by decide) (by decide)).mono ?_
  rintro x w4 ⟨rfl, hi⟩
  have H4 := Lib.hid hi
  clear hi
  go_wp2_with fail
  refine (next_inv w 1 2 0 _ _ H4.out (by decide) (by decide) (by decide) (by decide) (by decide) (by decide)).mono ?_
  rintro x w5 ⟨rfl, hi⟩
  have H5 := Lib.hid hi
  clear hi
  go_wp2_with fail
  refine (heardo_inv w 1 2 _ _ 0 _ H5.out (by decide)).mono ?_
  rintro x w' ⟨rfl, rfl⟩
  go_wp2_with fail
  refine (step_inv w 1 2 _ _ _ _ H5.out).mono ?_
  rintro x w' ⟨rfl, rfl⟩
  go_wp2_with fail
  refine (less_inv w 1 2 _ 0 _ H5.out (by decide) (by decide) (by decide)).mono ?_
  rintro x w6 ⟨rfl, hi⟩
  have H6 := Lib.hid hi
  clear hi
  go_wp2_with fail
  refine (nobody_inv w 1 2 _ _ _ H6.out (by decide) (by decide) (by decide) (by decide)).mono ?_
  rintro x w7 ⟨rfl, hi⟩
  have H7 := Lib.hid hi
  clear hi
  go_wp2_with fail
  refine (gonet_inv w 1 2 _ _ _ H7.out).mono ?_
  rintro x w' ⟨rfl, rfl⟩
  go_wp2_with fail
  refine (As.num41_some 1 _ (As.LaidG.below HG.out H7.out.2)).mono ?_
  rintro x w8 ⟨rfl, hb⟩
  have H8 : Hid (Inv w w8 1 2 (0 + 1) (0 + 1 + 1) true) := ⟨(hb.block _ (blk_lt H7.out.1)).trans H7.out.1, H7.out.2.trans (hb.mono H7.out.2.size)⟩
  clear hb
  go_wp2_with (go_at_call 13; (with_reducible refine (gone_inv w 1 2 _ _ _ _ H8.out).mono ?_); rintro x w' ⟨rfl, rfl⟩)
  go_ret
  exact ⟨rfl, H8.out.2⟩

theorem up_inv {w0 w : World} {sp li st : Int} {q : Nat} {go : Bool} (h : Inv w0 w sp li st ((q : Int) - 1 + 1) go) : Inv w0 w sp li st (((q + 1 : Nat) : Int) - 1) go := by
  have e : (((q + 1 : Nat) : Int) - 1) = (q : Int) - 1 + 1 := by omega
  rw [e]; exact h
theorem end_inv {w0 w : World} {n m s x : Int} (h : Inv w0 w n m s x true) (h1 : x = m) (h2 : s = n) : Inv w0 w n m n m true := by
  rw [h1, h2] at h; exact h

/-- behind s rounds of the second loop -/
def LoopS (w0 w : World) (n m s : Int) : Prop := (s ≤ n → Inv w0 w n m s 0 false) ∧ (n < s → Inv w0 w n m n m true)

set_option maxRecDepth 100000 in
set_option maxHeartbeats 2000000 in
theorem silent_walk (X Y Z : Int) (hX : 0 ≤ X) (hX2 : X ≤ 255) (hY : 0 ≤ Y) (hY2 : Y ≤ 255) (hZ : 0 ≤ Z) (hZ2 : Z ≤ 255) (w : World) (hG : As.LaidG w) :
    Calls Tryd.prog 3 #[.int .u8 X, .int .u8 Y, .int .u8 Z] w fun x w' => x = .returned (.bool true) ∧ Below w.heap.size w w' := by
  have HG := Lib.hid hG
  clear hG
  go_enter Tryd.func3, Tryd.ntmps3
  have n0 : 0 ≤ X % 3 := by omega
  have n2 : X % 3 ≤ 2 := by omega
  have m1 : 1 ≤ 1 + Y % 20 := by omega
  have m2 : 1 + Y % 20 ≤ 20 := by omega
  go_wp2_with fail
  generalize X % 3 = n at *
  generalize 1 + Y % 20 = m at *
  refine (new_ok n m _ n0 n2 m1 (by omega)).mono ?_
  rintro x w1 ⟨rfl, hw⟩
  have hi : Inv w w1 n m 0 0 false := by rw [hw]; exact inv_new w n m
  clear hw
  have H1 := Lib.hid hi
  clear hi
  go_wp2_with fail
  go_loopw [11] (fun i wr => ∃ j : Nat, i = .int .i64 j ∧ (j : Int) ≤ Z % 10 ∧ Inv w wr n m 0 0 false) (fun i _ => 10 - (intOf i).toNat)
  case atStart => exact ⟨0, rfl, by omega, H1.out⟩
  case round =>
    clear H1
    obtain ⟨j, rfl, hj, hi⟩ := hrel
    have H2 := Lib.hid hi
    clear hi
    by_cases hlt : (j : Int) < Z % 10
    · have hj10 : j < 10 := by omega
      obtain ⟨wo, rfl⟩ : ∃ wo : World, wo = wr := ⟨_, rfl⟩
      go_wp2_with fail
      go_loopw [12] (fun k wr => ∃ q : Nat, k = .int .i64 q ∧ 1 ≤ q ∧ (q : Int) ≤ m ∧ Inv w wr n m 0 ((q : Int) - 1) false) (fun k _ => 20 - (intOf k).toNat)
      case atStart => exact ⟨1, rfl, by omega, by omega, H2.out⟩
      case round =>
        obtain ⟨q, rfl, hq1, hqm, hi⟩ := hrel
        have H3 := Lib.hid hi
        clear hi
        by_cases hq : (q : Int) < m
        · go_wp2_with (go_at_call 10; (with_reducible refine (less_inv w n m 0 ((q : Int) - 1) _ H3.out (by omega) (by omega) (by omega)).mono ?_); rintro x w2 ⟨rfl, hi⟩; have H4 := Lib.hid hi; clear hi)
          go_roundw
          case rel => exact ⟨q + 1, by go_num, by omega, by omega, up_inv H4.out⟩
          case measure => simp [intOf]; omega
        · go_wp2_with (first
            | (go_at_call 11; (with_reducible refine (heard_inv w n m 0 _ _ H3.out).mono ?_); rintro x w2 ⟨rfl, hi⟩; have H4 := Lib.hid hi; clear hi)
            | (go_at_call 12; (with_reducible refine (step_inv w n m 0 _ _ _ H4.out).mono ?_); rintro x w' ⟨rfl, rfl⟩)
            | (go_at_call 13; (with_reducible refine (gone_inv w n m 0 _ _ _ H4.out).mono ?_); rintro x w' ⟨rfl, rfl⟩))
          go_roundw
          case rel => exact ⟨j + 1, by go_num, by omega, H4.out⟩
          case measure => simp [intOf]; omega
    · go_wp2_with fail
      go_loopw [13] (fun s wr => ∃ q : Nat, s = .int .i64 q ∧ (q : Int) ≤ n + 1 ∧ LoopS w wr n m q) (fun s _ => 4 - (intOf s).toNat)
      case atStart => exact ⟨0, rfl, by omega, fun _ => H2.out, fun h => absurd h (by omega)⟩
      case round =>
        clear H2
        obtain ⟨s, rfl, hs, hi⟩ := hrel
        have H3 := Lib.hid hi
        clear hi
        by_cases hsn : (s : Int) ≤ n
        · have H4 := Lib.hid (H3.out.1 hsn)
          clear H3
          obtain ⟨wo, rfl⟩ : ∃ wo : World, wo = wr := ⟨_, rfl⟩
          go_wp2_with fail
          go_loopw [14] (fun k wr => ∃ q : Nat, k = .int .i64 q ∧ 1 ≤ q ∧ (q : Int) ≤ m ∧ Inv w wr n m s ((q : Int) - 1) false) (fun k _ => 20 - (intOf k).toNat)
          case atStart => exact ⟨1, rfl, by omega, by omega, H4.out⟩
          case round =>
            clear H4
            obtain ⟨q, rfl, hq1, hqm, hi⟩ := hrel
            have H5 := Lib.hid hi
            clear hi
            by_cases hq : (q : Int) < m
            · go_wp2_with (first
                | (go_at_call 10; (with_reducible refine (less_inv w n m s ((q : Int) - 1) _ H5.out (by omega) (by omega) (by omega)).mono ?_); rintro x w2 ⟨rfl, hi⟩; have H6 := Lib.hid hi; clear hi)
                | (go_at_call 12; (with_reducible refine (step_inv w n m s _ _ _ H6.out).mono ?_); rintro x w' ⟨rfl, rfl⟩))
              go_roundw
              case rel => exact ⟨q + 1, by go_num, by omega, by omega, up_inv H6.out⟩
              case measure => simp [intOf]; omega
            · have hqe : (q : Int) - 1 + 1 = m := by omega
              have HQ := Lib.hid hqe
              clear hqe
              by_cases hl : (s : Int) < n
              · go_wp2_with (go_at_call 10; (with_reducible refine (next_inv w n m s ((q : Int) - 1) _ H5.out (by omega) (by omega) (by omega) (by omega) (by omega) (by omega)).mono ?_); rintro x w2 ⟨rfl, hi⟩; have H6 := Lib.hid hi; clear hi)
                go_roundw
                case rel => exact ⟨s + 1, by go_num, by omega, fun _ => H6.out, fun h => absurd h (by omega)⟩
                case measure => simp [intOf]; omega
              · have hse : (s : Int) = n := by omega
                have HE := Lib.hid hse
                clear hse
                go_wp2_with (go_at_call 10; (with_reducible refine (nobody_inv w n m s ((q : Int) - 1) _ H5.out (by omega) (by omega) (by omega) (by omega)).mono ?_); rintro x w2 ⟨rfl, hi⟩; have H6 := Lib.hid hi; clear hi)
                go_roundw
                case rel => exact ⟨s + 1, by go_num, by omega, fun h => absurd h (by omega), fun _ => end_inv H6.out HQ.out HE.out⟩
                case measure => simp [intOf]; omega
        · have H4 := Lib.hid (H3.out.2 (by omega))
          clear H3
          have HL := Lib.hid (As.LaidG.below HG.out H4.out.2)
          go_wp2_with (first
            | (go_at_call 13; (with_reducible refine (gone_inv w n m n _ _ _ H4.out).mono ?_); rintro x w' ⟨rfl, rfl⟩)
            | (go_at_call 10; (with_reducible refine (gonet_inv w n m n _ _ H4.out).mono ?_); rintro x w' ⟨rfl, rfl⟩)
            | (go_at_call 11; (with_reducible refine (heardg_inv w n m n _ _ _ H4.out).mono ?_); rintro x w' ⟨rfl, rfl⟩)
            | (go_at_call 14; (with_reducible refine (sure_is _ HL.out).mono ?_); rintro x w3 ⟨rfl, hb⟩))
          go_ret
          exact ⟨rfl, H4.out.2.trans (hb.mono H4.out.2.size)⟩
end Go.Proofs.YtfomajippdcaoaaDoor.St
