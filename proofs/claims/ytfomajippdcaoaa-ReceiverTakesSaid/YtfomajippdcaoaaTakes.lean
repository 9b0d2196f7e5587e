/-
  The law ReceiverTakes, walked: the receiver and the document's one go alike.
-/
import Derived.Test.YtfomajippdcaoaaOnce
import Derived.Test.YtfomajippdcaoaaRef
import Derived.StillTailTactics
import Derived.Deep.RegionWith
import Derived.Deep.RegionHeld3
import Derived.Deep.DeepCutAuto
import Derived.Deep.CutBlock
namespace Go.Proofs.Ytfomajippdcaoaa.Rc
open Go.RowKit Go.Proofs.YtfomajippdcaoaaW.PrintWords

theorem tk_bd (e s a b : Int) (he : 0 ≤ e) (he2 : e ≤ 1073741824) (hs : 0 ≤ s) (hs2 : s ≤ 1073741824) :
    0 ≤ (tk e s a b).1 ∧ (tk e s a b).1 ≤ 1073741824 ∧ 0 ≤ (tk e s a b).2.1 ∧ (tk e s a b).2.1 ≤ 1073741824 := by
  obtain ⟨c, hc, c0, c1⟩ : ∃ c, (if e < a then 0 else s) = c ∧ 0 ≤ c ∧ c ≤ 1073741824 := ⟨_, rfl, by split <;> omega, by split <;> omega⟩
  unfold tk
  rw [hc]
  split
  · exact ⟨he, he2, hs, hs2⟩
  · split
    · exact ⟨by show 0 ≤ a; omega, by show a ≤ _; omega, by show 0 ≤ b; omega, by show b ≤ _; omega⟩
    · exact ⟨by show 0 ≤ a; omega, by show a ≤ _; omega, c0, c1⟩

theorem push2 (h : Array Obj) (a b : Obj) : ((h.push a).push b)[h.size]? = some a ∧ ((h.push a).push b)[h.size + 1]? = some b := by
  constructor
  · rw [Array.getElem?_push, Array.getElem?_push, if_neg (by simp), if_pos rfl]
  · rw [Array.getElem?_push, if_pos (by simp)]

/-- the receiver made at w0's end; behind it the document's one -/
def RX (e s : Int) : Obj := .cells #[.int .i64 e, .int .i64 s] 29 (0, 0)
def Inv2 (w0 w : World) (e s : Int) : Prop := w.heap[w0.heap.size]? = some (RB e s) ∧ w.heap[w0.heap.size + 1]? = some (RX e s) ∧ Below w0.heap.size w0 w


/-- between the two: the receiver has heard it, the document's one not yet -/
def Mid (w0 w : World) (e s e' s' : Int) : Prop := w.heap[w0.heap.size]? = some (RB e s) ∧ w.heap[w0.heap.size + 1]? = some (RX e' s') ∧ Below w0.heap.size w0 w

theorem mid_cell {w0 w : World} {e s e' s' : Int} (h : Mid w0 w e s e' s') : w.cell? ⟨w0.heap.size + 1, 0, none⟩ = some (.int .i64 e') ∧ w.cell? ⟨w0.heap.size + 1, 1, none⟩ = some (.int .i64 s') ∧ w.frozen? ⟨w0.heap.size + 1, 0, none⟩ = false ∧ w.frozen? ⟨w0.heap.size + 1, 1, none⟩ = false := by
  have h1 := h.2.1
  unfold RX at h1
  simp [World.cell?, World.frozen?, h1]
theorem mid_drew {w0 w : World} {e s e' s' : Int} (h : Mid w0 w e s e' s') (m : Nat) : Mid w0 (w.drewN m) e s e' s' := ⟨h.1, h.2.1, pw_below_drewN h.2.2 m⟩
theorem mid_drew1 {w0 w : World} {e s e' s' : Int} (h : Mid w0 w e s e' s') : Mid w0 w.drew e s e' s' := ⟨h.1, h.2.1, h.2.2.drew⟩
theorem mid_below {w0 w w' : World} {e s e' s' : Int} (h : Mid w0 w e s e' s') (hb : Below w.heap.size w w') : Mid w0 w' e s e' s' :=
  ⟨(hb.block _ (blk_lt h.1)).trans h.1, (hb.block _ (blk_lt h.2.1)).trans h.2.1, h.2.2.trans (hb.mono h.2.2.size)⟩
theorem mid_alloc {w0 w : World} {e s e' s' : Int} (h : Mid w0 w e s e' s') (o : Obj) : Mid w0 (w.alloc o) e s e' s' := mid_below h ((Below.refl _ _).alloc (Nat.le_refl _) _)
theorem mid_set0 {w0 w : World} {e s e' s' : Int} (h : Mid w0 w e s e' s') (x : Int) : Mid w0 (w.setCell ⟨w0.heap.size + 1, 0, none⟩ (.int .i64 x)) e s x s' :=
  ⟨(Below.heap_setCell w _ _ _ (by simp)).trans h.1, blk_set h.2.1 0 (.int .i64 x), h.2.2.setCell (p := ⟨w0.heap.size + 1, 0, none⟩) (by simp) _⟩
theorem mid_set1 {w0 w : World} {e s e' s' : Int} (h : Mid w0 w e s e' s') (x : Int) : Mid w0 (w.setCell ⟨w0.heap.size + 1, 1, none⟩ (.int .i64 x)) e s e' x :=
  ⟨(Below.heap_setCell w _ _ _ (by simp)).trans h.1, blk_set h.2.1 1 (.int .i64 x), h.2.2.setCell (p := ⟨w0.heap.size + 1, 1, none⟩) (by simp) _⟩

theorem take_mid (w0 : World) (e s a b e' s' far x y : Int) (is : Bool) (w : World) (hi : Mid w0 w e s x y) (he : 0 ≤ e) (hs : 0 ≤ s) (hs2 : s ≤ 1073741824) (ht : tk e s a b = (e', s', is, far)) :
    Calls Try.prog 5 #[.pointer (some ⟨w0.heap.size, 0, none⟩), .int .i64 a, .int .i64 b] w fun v w' => v = .returned (.tuple #[.bool is, .int .i64 far]) ∧ Mid w0 w' e' s' x y :=
  (take_res _ e s a b e' s' far is w hi.1 he hs hs2 ht).mono fun _ _ ⟨h1, h2⟩ => ⟨h1, h2.1, (h2.2.2.2 _ (blk_lt hi.2.1) (by omega) (by simp)).trans hi.2.1, hi.2.2.trans (h2.2.1 _ (Nat.le_refl _))⟩
theorem epoch_mid (w0 w : World) (e s x y : Int) (hi : Mid w0 w e s x y) : Calls Try.prog 6 #[.pointer (some ⟨w0.heap.size, 0, none⟩)] w fun v w' => v = .returned (.int .i64 e) ∧ w = w' := epoch_is _ e w (rb_cell hi.1).1
theorem last_mid (w0 w : World) (e s x y : Int) (hi : Mid w0 w e s x y) : Calls Try.prog 7 #[.pointer (some ⟨w0.heap.size, 0, none⟩)] w fun v w' => v = .returned (.int .i64 s) ∧ w = w' := last_is _ s w (rb_cell hi.1).2.1

theorem rx_cell {w : World} {g : Nat} {e s : Int} (h : w.heap[g]? = some (RX e s)) : w.cell? ⟨g, 0, none⟩ = some (.int .i64 e) ∧ w.cell? ⟨g, 1, none⟩ = some (.int .i64 s) ∧ w.frozen? ⟨g, 0, none⟩ = false ∧ w.frozen? ⟨g, 1, none⟩ = false := by
  unfold RX at h
  simp [World.cell?, World.frozen?, h]
theorem rx_kept {w w' : World} (hb : Below (w.alloc (.cells #[.int .i64 0, .int .i64 0] 29)).drew.heap.size (w.alloc (.cells #[.int .i64 0, .int .i64 0] 29)).drew w') : w'.heap[w.heap.size]? = some (RX 0 0) := by
  refine (hb.block w.heap.size (by show w.heap.size < (w.heap.push (RX 0 0)).size; simp)).trans ?_
  show (w.heap.push (RX 0 0))[w.heap.size]? = _
  simp
theorem rx_set {w : World} {g : Nat} {e s : Int} (h : w.heap[g]? = some (RX e s)) (x y : Int) : ((w.setCell ⟨g, 0, none⟩ (.int .i64 x)).setCell ⟨g, 1, none⟩ (.int .i64 y)).heap[g]? = some (RX x y) :=
  blk_set (blk_set h 0 (.int .i64 x)) 1 (.int .i64 y)
theorem rx_new (w : World) (x y : Int) : (w.alloc (.cells #[.int .i64 x, .int .i64 y] 29)).heap[w.heap.size]? = some (RX x y) := by
  show (w.heap.push (RX x y))[w.heap.size]? = _
  simp
theorem mid_far {w0 w : World} {e s e' s' : Int} (h : Mid w0 w e s e' s') {g : Nat} (hg : w0.heap.size + 1 < g) (j : Nat) (v : Value) : Mid w0 (w.setCell ⟨g, j, none⟩ v) e s e' s' :=
  ⟨(Below.heap_setCell w _ _ _ (by show w0.heap.size ≠ g; omega)).trans h.1, (Below.heap_setCell w _ _ _ (by show w0.heap.size + 1 ≠ g; omega)).trans h.2.1, h.2.2.setCell (p := ⟨g, j, none⟩) (by show w0.heap.size ≤ g; omega) _⟩

theorem epochq (w0 w : World) (e s x y : Int) (hi : Mid w0 w e s x y) : Calls Try.prog 6 #[.pointer (some ⟨w0.heap.size, 0, none⟩)] w fun v w' => v = .returned (.int .i64 e) ∧ w' = w := (epoch_is _ e w (rb_cell hi.1).1).mono fun _ _ ⟨h1, h2⟩ => ⟨h1, h2.symm⟩
theorem lastq (w0 w : World) (e s x y : Int) (hi : Mid w0 w e s x y) : Calls Try.prog 7 #[.pointer (some ⟨w0.heap.size, 0, none⟩)] w fun v w' => v = .returned (.int .i64 s) ∧ w' = w := (last_is _ s w (rb_cell hi.1).2.1).mono fun _ _ ⟨h1, h2⟩ => ⟨h1, h2.symm⟩

set_option maxRecDepth 100000 in
set_option maxHeartbeats 1000000 in
theorem takes_walk (b off len cap : Nat) (f : Nat → Nat → Int) (w : World) (hlen : len ≤ 9223372036854775807)
    (hc : ∀ i, i < len → w.cell? ⟨b, off + i * 2, none⟩ = some (.int .i64 (f i 0)) ∧ w.cell? ⟨b, off + i * 2 + 1, none⟩ = some (.int .i64 (f i 1))) :
    Calls Try.prog 3 #[.slice (some ⟨b, off, none⟩) len cap] w fun x w' => x = .returned (.bool true) ∧ Below w.heap.size w w' := by
  go_enter Try.func3, Try.ntmps3
  go_wp2_with (first | (go_at_call 5; refine (take_nil _ _ _).mono ?_; rintro x w' ⟨rfl, rfl⟩) | (go_at_call 6; refine (epoch_nil _).mono ?_; rintro x w' ⟨rfl, rfl⟩) | (go_at_call 7; refine (last_nil _).mono ?_; rintro x w' ⟨rfl, rfl⟩) | (go_at_call 8; refine (new_is _).mono ?_; rintro x w' ⟨rfl, rfl⟩))
  have hi : Mid w ((w.alloc (RB 0 0)).alloc (.cells #[.int .i64 0, .int .i64 0] 29)) 0 0 0 0 := by
    exact ⟨(push2 w.heap (RB 0 0) (RX 0 0)).1, (push2 w.heap (RB 0 0) (RX 0 0)).2, ((Below.refl _ _).alloc (Nat.le_refl _) _).alloc (by simp) _⟩
  go_loopw [8] (fun i wr => ∃ (E S : Int) (k : Nat), i = .int .i64 k ∧ k ≤ len ∧ 0 ≤ E ∧ E ≤ 1073741824 ∧ 0 ≤ S ∧ S ≤ 1073741824 ∧ Mid w wr E S E S) (fun i _ => len - (intOf i).toNat)
  case atStart => exact ⟨0, 0, 0, rfl, by omega, by omega, by omega, by omega, by omega, hi⟩
  case round =>
    clear hi
    obtain ⟨E, S, k, rfl, hk, hE0, hE1, hS0, hS1, hi⟩ := hrel
    have HI := Lib.hid hi
    clear hi
    by_cases hlt : k < len
    · by_cases h200 : (k : Int) < 200
      · obtain ⟨q0, q1⟩ := hc k hlt
        have hfr : b < w.heap.size := by
          rcases Nat.lt_or_ge b w.heap.size with h | h
          · exact h
          · simp [World.cell?, Array.getElem?_eq_none h] at q0
        have hq : ∀ W, Below w.heap.size w W → W.cell? ⟨b, off + k * 2, none⟩ = some (.int .i64 (f k 0)) ∧ W.cell? ⟨b, off + k * 2 + 1, none⟩ = some (.int .i64 (f k 1)) := fun W hW =>
          ⟨(hW.cell (p := ⟨b, off + k * 2, none⟩) hfr).trans q0, (hW.cell (p := ⟨b, off + k * 2 + 1, none⟩) hfr).trans q1⟩
        clear q0 q1 hc
        generalize f k 0 = X at *
        generalize f k 1 = Y at *
        have HQ := Lib.hid hq
        clear hq
        obtain ⟨d0, d1⟩ := HQ.out _ HI.out.2.2
        obtain ⟨e', s', is, far, ht⟩ : ∃ e' s' is far, tk E S X Y = (e', s', is, far) := ⟨_, _, _, _, rfl⟩
        have hbd := tk_bd E S X Y hE0 hE1 hS0 hS1
        rw [ht] at hbd
        have HT := Lib.hid ht
        clear ht
        obtain ⟨g1, g2, g3', g4⟩ := hbd
        go_wp2_with fail
        go_upto_region 12 with (fail)
        go_cut [9, 10] (fun v9 v10 wc => v9 = .bool is ∧ v10 = .int .i64 far ∧ Mid w wc e' s' E S)
        case first =>
          go_region_with (go_at_call 5; (with_reducible refine (take_mid w E S _ _ _ _ _ _ _ _ _ (mid_drew1 HI.out) hE0 hS0 hS1 HT.out).mono ?_); rintro v w1 ⟨rfl, hm⟩; have HM := Lib.hid hm; clear hm)
          all_goals go_wp2_with fail
          all_goals go_meet
          all_goals (case rel => exact ⟨rfl, rfl, HM.out⟩)
        case rest =>
          obtain ⟨rfl, rfl, hm⟩ := hcut
          have HM := Lib.hid hm
          clear hm
          obtain ⟨x0, x1, x2, x3⟩ := mid_cell HM.out
          clear d0 d1
          obtain ⟨d0, d1⟩ := HQ.out _ HM.out.2.2
          go_upto_region 13 with (fail)
          go_cut [11, 12, 13] (fun v11 v12 v13 wd => ∃ g3, v11 = .pointer (some ⟨g3, 0, none⟩) ∧ v12 = .bool is ∧ v13 = .int .i64 far ∧ wd.heap[g3]? = some (RX e' s') ∧ w.heap.size + 1 < g3 ∧ Mid w wd e' s' E S)
          case first =>
            have z1 : w.heap.size + 1 < wc.heap.size := blk_lt HM.out.2.1
            have z2 : b < wc.heap.size := by omega
            have HS : Hid (∀ W, Mid w W e' s' E S → W.cell? ⟨b, off + k * 2, none⟩ = some (.int .i64 X) ∧ W.cell? ⟨b, off + k * 2 + 1, none⟩ = some (.int .i64 Y) ∧ W.cell? ⟨w.heap.size + 1, 0, none⟩ = some (.int .i64 E) ∧ W.cell? ⟨w.heap.size + 1, 1, none⟩ = some (.int .i64 S)) :=
              fun W hW => ⟨(HQ.out W hW.2.2).1, (HQ.out W hW.2.2).2, (mid_cell hW).1, (mid_cell hW).2.1⟩
            go_region_held3 (fun W => W.cell? ⟨b, off + k * 2, none⟩ = some (.int .i64 X) ∧ W.cell? ⟨b, off + k * 2 + 1, none⟩ = some (.int .i64 Y) ∧ W.cell? ⟨w.heap.size + 1, 0, none⟩ = some (.int .i64 E) ∧ W.cell? ⟨w.heap.size + 1, 1, none⟩ = some (.int .i64 S))
              (first | exact HS.out _ (by repeat (first | exact HN.out | exact HM.out | apply mid_drew1 | apply mid_alloc | refine mid_far ?_ z1 _ _)))
              (first | (go_at_call 9; (with_reducible refine (ref_any E S _ _ _ _ _ _ _ hS0 hS1 HT.out).mono ?_); rintro v w2 ⟨rfl, hb2⟩; have HN := Lib.hid (mid_below (w0 := w) (e := e') (s := s') (e' := E) (s' := S) (by repeat (first | exact HM.out | apply mid_drew1 | apply mid_alloc)) hb2); have z0 : w.heap.size + 1 < w2.heap.size := blk_lt HN.out.2.1; (try (have K3 := Lib.hid (rx_kept hb2); obtain ⟨y0, y1, y2, y3⟩ := rx_cell K3.out)); clear hb2))
            all_goals go_wp2_with fail
            all_goals go_meet
            all_goals (case rel => first | exact ⟨_, rfl, rfl, rfl, rx_set K3.out _ _, z1, mid_far (mid_far HN.out z1 _ _) z1 _ _⟩ | exact ⟨_, rfl, rfl, rfl, rx_new _ _ _, z0, mid_alloc HN.out _⟩)
          case rest =>
            obtain ⟨g3, rfl, rfl, rfl, h3, hg3, hm⟩ := hcut
            have HN := Lib.hid hm
            clear hm
            have H3 := Lib.hid h3
            clear h3
            clear x0 x1 x2 x3
            obtain ⟨x0, x1, x2, x3⟩ := mid_cell HN.out
            obtain ⟨y0, y1, y2, y3⟩ := rx_cell H3.out
            go_upto_region 15 with (fail)
            have HW : Hid (Mid w ((wc.setCell ⟨w.heap.size + 1, 0, none⟩ (.int .i64 e')).setCell ⟨w.heap.size + 1, 1, none⟩ (.int .i64 s')) e' s' e' s') := mid_set1 (mid_set0 HN.out e') s'
            clear x0 x1 x2 x3
            obtain ⟨x0, x1, x2, x3⟩ := mid_cell HW.out
            generalize (wc.setCell ⟨w.heap.size + 1, 0, none⟩ (.int .i64 e')).setCell ⟨w.heap.size + 1, 1, none⟩ (.int .i64 s') = w4 at *
            have hbb : (is != is) = false := by simp
            have hff : (far != far) = false := by simp
            have hee : (e' != e') = false := by simp
            have hss : (s' != s') = false := by simp
            go_region_held3 (fun W => W.cell? ⟨w.heap.size + 1, 0, none⟩ = some (.int .i64 e') ∧ W.cell? ⟨w.heap.size + 1, 1, none⟩ = some (.int .i64 s'))
              (first | exact ⟨x0, x1⟩)
              (first | (go_at_call 6; (with_reducible refine (epoch_mid w _ e' s' e' s' (by first | exact HW.out | exact mid_drew1 HW.out)).mono ?_); rintro v w5 ⟨rfl, rfl⟩) | (go_at_call 7; (with_reducible refine (last_mid w _ e' s' e' s' (by first | exact HW.out | exact mid_drew1 HW.out)).mono ?_); rintro v w5 ⟨rfl, rfl⟩))
            go_wp2_with fail
            go_roundw
            case rel => exact ⟨e', s', k + 1, by go_num, by omega, g1, g2, g3', g4, mid_drew HW.out _⟩
            case measure => simp [intOf]; omega
      · go_wp2_with (go_at_call 10; refine (sure_is _).mono ?_; rintro x w' ⟨rfl, hb⟩)
        go_ret
        exact ⟨rfl, HI.out.2.2.trans (hb.mono HI.out.2.2.size)⟩
    · go_wp2_with (go_at_call 10; refine (sure_is _).mono ?_; rintro x w' ⟨rfl, hb⟩)
      go_ret
      exact ⟨rfl, HI.out.2.2.trans (hb.mono HI.out.2.2.size)⟩

set_option maxRecDepth 100000 in
set_option maxHeartbeats 1000000 in
theorem takes_zero (a : Option Addr) (cap : Nat) (w : World) :
    Calls Try.prog 3 #[.slice a 0 cap] w fun x w' => x = .returned (.bool true) ∧ Below w.heap.size w w' := by
  go_enter Try.func3, Try.ntmps3
  go_wp2_with (first | (go_at_call 5; refine (take_nil _ _ _).mono ?_; rintro x w' ⟨rfl, rfl⟩) | (go_at_call 6; refine (epoch_nil _).mono ?_; rintro x w' ⟨rfl, rfl⟩) | (go_at_call 7; refine (last_nil _).mono ?_; rintro x w' ⟨rfl, rfl⟩) | (go_at_call 8; refine (new_is _).mono ?_; rintro x w' ⟨rfl, rfl⟩))
  refine wp_loop_rounds 1 ?_
  rw [rounds_succ]
  go_wp2_with (go_at_call 10; refine (sure_is _).mono ?_; rintro x w' ⟨rfl, hb⟩)
  go_ret
  exact ⟨rfl, (bal (bal (Below.refl _ _) _) _).trans (hb.mono (by simp; omega))⟩

end Go.Proofs.Ytfomajippdcaoaa.Rc
