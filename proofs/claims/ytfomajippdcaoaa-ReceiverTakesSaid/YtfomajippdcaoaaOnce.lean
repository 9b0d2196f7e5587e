/-
  The law ReceiverOnce, walked: whatever bodies come, it answers true.
-/
import Derived.Test.YtfomajippdcaoaaTake
import Derived.LoopTactic
import Derived.Outline
import Derived.OwnWalk
import Derived.Deep.LoopGhost
namespace Go.Proofs.Ytfomajippdcaoaa.Rc
open Go.RowKit Go.Proofs.YtfomajippdcaoaaW.PrintWords

theorem take_res (g : Nat) (e s a b e' s' far : Int) (is : Bool) (w : World) (hb : w.heap[g]? = some (RB e s)) (he : 0 ≤ e) (hs : 0 ≤ s) (hs2 : s ≤ 1073741824) (ht : tk e s a b = (e', s', is, far)) :
    Calls Try.prog 5 #[.pointer (some ⟨g, 0, none⟩), .int .i64 a, .int .i64 b] w fun x w' => x = .returned (.tuple #[.bool is, .int .i64 far]) ∧ Left2 g w w' e' s' := by
  have h := take_any g e s a b w hb he hs hs2
  rw [ht] at h
  exact h

/-- the receiver made at w0's end, and all that was there as it was -/
def Inv (w0 w : World) (e s : Int) : Prop := w.heap[w0.heap.size]? = some (RB e s) ∧ Below w0.heap.size w0 w

theorem inv_new (w : World) : Inv w (w.alloc (RB 0 0)) 0 0 := ⟨by show (w.heap.push (RB 0 0))[w.heap.size]? = _; simp, (Below.refl _ _).alloc (Nat.le_refl _) _⟩
theorem inv_left {w0 w w' : World} {e s e' s' : Int} (h : Inv w0 w e s) (hl : Left2 w0.heap.size w w' e' s') : Inv w0 w' e' s' :=
  ⟨hl.1, h.2.trans (hl.2.1 _ (Nat.le_refl _))⟩
theorem inv_drew {w0 w : World} {e s : Int} (h : Inv w0 w e s) (m : Nat) : Inv w0 (w.drewN m) e s := ⟨h.1, pw_below_drewN h.2 m⟩

theorem take_inv (w0 : World) (e s a b e' s' far : Int) (is : Bool) (w : World) (hi : Inv w0 w e s) (he : 0 ≤ e) (hs : 0 ≤ s) (hs2 : s ≤ 1073741824) (ht : tk e s a b = (e', s', is, far)) :
    Calls Try.prog 5 #[.pointer (some ⟨w0.heap.size, 0, none⟩), .int .i64 a, .int .i64 b] w fun x w' => x = .returned (.tuple #[.bool is, .int .i64 far]) ∧ Inv w0 w' e' s' :=
  (take_res _ e s a b e' s' far is w hi.1 he hs hs2 ht).mono fun _ _ ⟨h1, h2⟩ => ⟨h1, inv_left hi h2⟩
theorem epoch_inv (w0 w : World) (e s : Int) (hi : Inv w0 w e s) : Calls Try.prog 6 #[.pointer (some ⟨w0.heap.size, 0, none⟩)] w fun x w' => x = .returned (.int .i64 e) ∧ w = w' := epoch_is _ e w (rb_cell hi.1).1
theorem last_inv (w0 w : World) (e s : Int) (hi : Inv w0 w e s) : Calls Try.prog 7 #[.pointer (some ⟨w0.heap.size, 0, none⟩)] w fun x w' => x = .returned (.int .i64 s) ∧ w = w' := last_is _ s w (rb_cell hi.1).2.1

set_option maxHeartbeats 1000000 in
theorem sure_is (w : World) : Calls Try.prog 10 #[] w fun x w' => x = .returned (.bool true) ∧ Below w.heap.size w w' := by
  go_enter Try.func10, Try.ntmps10
  go_wp2_with fail
  refine (new_is _).mono ?_
  rintro x w0 ⟨rfl, hw⟩
  have hi : Inv w w0 0 0 := by rw [hw]; exact inv_new w
  clear hw
  go_wp2_with fail
  refine (take_inv w 0 0 1 1 1 1 1 true _ hi (by decide) (by decide) (by decide) (by decide)).mono ?_
  rintro x w1 ⟨rfl, hi1⟩
  clear hi
  go_wp2_with fail
  refine (take_inv w 1 1 1 1 1 1 1 false _ hi1 (by decide) (by decide) (by decide) (by decide)).mono ?_
  rintro x w2 ⟨rfl, hi2⟩
  clear hi1
  go_wp2_with fail
  refine (take_inv w 1 1 1 2 1 2 2 true _ hi2 (by decide) (by decide) (by decide) (by decide)).mono ?_
  rintro x w3 ⟨rfl, hi3⟩
  clear hi2
  go_wp2_with fail
  refine (take_inv w 1 2 2 1 2 1 1 true _ hi3 (by decide) (by decide) (by decide) (by decide)).mono ?_
  rintro x w4 ⟨rfl, hi4⟩
  clear hi3
  go_wp2_with fail
  refine (take_inv w 2 1 1 3 2 1 (-1) false _ hi4 (by decide) (by decide) (by decide) (by decide)).mono ?_
  rintro x w5 ⟨rfl, hi5⟩
  clear hi4
  go_wp2_with (first | (go_at_call 6; refine (epoch_inv w _ 2 1 hi5).mono ?_; rintro x w' ⟨rfl, rfl⟩) | (go_at_call 7; refine (last_inv w _ 2 1 hi5).mono ?_; rintro x w' ⟨rfl, rfl⟩))
  go_ret
  exact ⟨rfl, hi5.2⟩

theorem tk_old {e s a b : Int} (h : a < e) : tk e s a b = (e, s, false, -1) := by unfold tk; rw [if_pos (by omega)]
theorem tk_new1 {e s a b : Int} (h : e < a) (h1 : 1 ≤ a) (h2 : a ≤ 3) (h3 : 1 ≤ b) (h4 : b ≤ 1) : tk e s a b = (a, 1, true, 1) := by
  have h5 : b = 1 := by omega
  subst h5
  unfold tk
  rw [if_neg (by omega), if_pos h, if_pos (by omega)]
theorem tk_new0 {e s a b : Int} (h : e < a) (h1 : 1 ≤ a) (h2 : a ≤ 3) (h3 : ¬ b ≤ 1) (h4 : b ≤ 6) : tk e s a b = (a, 0, false, 0) := by
  unfold tk
  rw [if_neg (by omega), if_pos h, if_neg (by omega)]
theorem tk_next {e n a b : Int} (h : a = e) (h1 : 1 ≤ a) (h2 : a ≤ 3) (h3 : 1 ≤ b) (h4 : b ≤ 6) (h5 : b = n) : tk e (n - 1) a b = (e, n, true, n) := by
  subst h
  subst h5
  have h0 : ¬ a < a := by omega
  unfold tk
  simp only [if_neg h0]
  rw [if_neg (by omega), if_pos (by omega)]
theorem tk_stay {e n a b : Int} (h : a = e) (h1 : 1 ≤ a) (h2 : a ≤ 3) (h3 : 1 ≤ b) (h4 : b ≤ 6) (h5 : b ≠ n) : tk e (n - 1) a b = (e, n - 1, false, n - 1) := by
  subst h
  have h0 : ¬ a < a := by omega
  unfold tk
  simp only [if_neg h0]
  rw [if_neg (by omega), if_neg (by omega)]

set_option maxRecDepth 100000 in
set_option maxHeartbeats 2000000 in
theorem once_walk (b off len cap : Nat) (f : Nat → Nat → Int) (w : World) (hlen : len ≤ 9223372036854775807)
    (hf : ∀ i, i < len → (0 ≤ f i 0 ∧ f i 0 ≤ 255) ∧ (0 ≤ f i 1 ∧ f i 1 ≤ 255))
    (hc : ∀ i, i < len → w.cell? ⟨b, off + i * 2, none⟩ = some (.int .u8 (f i 0)) ∧ w.cell? ⟨b, off + i * 2 + 1, none⟩ = some (.int .u8 (f i 1))) :
    Calls Try.prog 4 #[.slice (some ⟨b, off, none⟩) len cap] w fun x w' => x = .returned (.bool true) ∧ Below w.heap.size w w' := by
  go_enter Try.func4, Try.ntmps4
  go_wp2_with fail
  refine (new_is _).mono ?_
  rintro x w0 ⟨rfl, hw⟩
  have hi : Inv w w0 0 0 := by rw [hw]; exact inv_new w
  clear hw
  go_wp2_with fail
  go_loopw [4, 5, 6] (fun ep nx i wr => ∃ (E N : Int) (k : Nat), ep = .int .i64 E ∧ nx = .int .i64 N ∧ i = .int .i64 k ∧ k ≤ len ∧ 0 ≤ E ∧ E ≤ 3 ∧ 1 ≤ N ∧ N ≤ 7 ∧ Inv w wr E (N - 1)) (fun _ _ i _ => len - (intOf i).toNat)
  case atStart => exact ⟨0, 1, 0, rfl, rfl, rfl, by omega, by omega, by omega, by omega, by omega, hi⟩
  case round =>
    clear hi
    obtain ⟨E, N, k, rfl, rfl, rfl, hk, hE0, hE3, hN1, hN7, hi⟩ := hrel
    have HI := Lib.hid hi
    clear hi
    by_cases hlt : k < len
    · by_cases h200 : (k : Int) < 200
      · obtain ⟨q0, q1⟩ := hc k hlt
        have hfr : b < w.heap.size := by
          rcases Nat.lt_or_ge b w.heap.size with h | h
          · exact h
          · simp [World.cell?, Array.getElem?_eq_none h] at q0
        have d0 : wr.cell? ⟨b, off + k * 2, none⟩ = some (.int .u8 (f k 0)) := (HI.out.2.cell (p := ⟨b, off + k * 2, none⟩) hfr).trans q0
        have d1 : wr.cell? ⟨b, off + k * 2 + 1, none⟩ = some (.int .u8 (f k 1)) := (HI.out.2.cell (p := ⟨b, off + k * 2 + 1, none⟩) hfr).trans q1
        clear q0 q1 hc
        obtain ⟨⟨a0, a1⟩, ⟨b0, b1⟩⟩ := hf k hlt
        clear hf
        generalize f k 0 = X at *
        generalize f k 1 = Y at *
        have hX : 1 + X % 3 ≤ 3 := by omega
        have hX1 : 1 ≤ 1 + X % 3 := by omega
        have hY : 1 + Y % 6 ≤ 6 := by omega
        have hY1 : 1 ≤ 1 + Y % 6 := by omega
        by_cases cA : 1 + X % 3 < E
        · have ht0 : (tk E (N - 1) (1 + X % 3) (1 + Y % 6) = (E, N - 1, false, -1)) := tk_old cA
          have ht := Lib.hid ht0
          clear ht0
          go_wp2_with fail
          go_quiet (fail)
          go_wp2_with (go_at_call 5; (with_reducible refine (take_inv w E (N - 1) _ _ _ _ _ _ _ (inv_drew HI.out _) (by omega) (by omega) (by omega) ht.out).mono ?_); rintro x w' ⟨rfl, hi2⟩; have HJ := Lib.hid hi2; clear hi2)
          go_roundw
          case rel => exact ⟨E, N, k + 1, rfl, rfl, by go_num, by omega, hE0, hE3, hN1, hN7, HJ.out⟩
          case measure => simp [intOf]; omega
        · by_cases cB : E < 1 + X % 3
          · by_cases cC : 1 + Y % 6 ≤ 1
            · have ht0 : (tk E (N - 1) (1 + X % 3) (1 + Y % 6) = (1 + X % 3, 1, true, 1)) := tk_new1 cB hX1 hX hY1 cC
              have ht := Lib.hid ht0
              clear ht0
              go_wp2_with fail
              go_quiet (fail)
              go_wp2_with (go_at_call 5; (with_reducible refine (take_inv w E (N - 1) _ _ _ _ _ _ _ (inv_drew HI.out _) (by omega) (by omega) (by omega) ht.out).mono ?_); rintro x w' ⟨rfl, hi2⟩; have HJ := Lib.hid hi2; clear hi2)
              go_roundw
              case rel => exact ⟨_, 2, k + 1, rfl, rfl, by go_num, by omega, by omega, by omega, by omega, by omega, HJ.out⟩
              case measure => simp [intOf]; omega
            · have ht0 : (tk E (N - 1) (1 + X % 3) (1 + Y % 6) = (1 + X % 3, 0, false, 0)) := tk_new0 cB hX1 hX cC hY
              have ht := Lib.hid ht0
              clear ht0
              go_wp2_with fail
              go_quiet (fail)
              go_wp2_with (go_at_call 5; (with_reducible refine (take_inv w E (N - 1) _ _ _ _ _ _ _ (inv_drew HI.out _) (by omega) (by omega) (by omega) ht.out).mono ?_); rintro x w' ⟨rfl, hi2⟩; have HJ := Lib.hid hi2; clear hi2)
              go_roundw
              case rel => exact ⟨_, 1, k + 1, rfl, rfl, by go_num, by omega, by omega, by omega, by omega, by omega, HJ.out⟩
              case measure => simp [intOf]; omega
          · have cE : 1 + X % 3 ≤ E := by omega
            have cE2 : E ≤ 1 + X % 3 := by omega
            by_cases cC : 1 + Y % 6 = N
            · have c1 : 1 + Y % 6 ≤ N := by omega
              have c2 : N ≤ 1 + Y % 6 := by omega
              have C := Lib.hid cC
              clear cC
              have ht0 : (tk E (N - 1) (1 + X % 3) (1 + Y % 6) = (E, N, true, N)) := tk_next (by omega) hX1 hX hY1 hY (by omega)
              have ht := Lib.hid ht0
              clear ht0
              go_wp2_with fail
              go_quiet (fail)
              go_wp2_with (go_at_call 5; (with_reducible refine (take_inv w E (N - 1) _ _ _ _ _ _ _ (inv_drew HI.out _) (by omega) (by omega) (by omega) ht.out).mono ?_); rintro x w' ⟨rfl, hi2⟩; have HJ := Lib.hid hi2; clear hi2)
              go_roundw
              case rel => exact ⟨E, N + 1, k + 1, rfl, rfl, by go_num, by omega, by omega, by omega, by omega, by omega, by rw [show N + 1 - 1 = N by omega]; exact HJ.out⟩
              case measure => simp [intOf]; omega
            · have c1 : (1 + Y % 6 == N) = false := beq_eq_false_iff_ne.mpr cC
              have ht0 : (tk E (N - 1) (1 + X % 3) (1 + Y % 6) = (E, N - 1, false, N - 1)) := tk_stay (by omega) hX1 hX hY1 hY cC
              have ht := Lib.hid ht0
              clear ht0
              go_wp2_with fail
              go_quiet (fail)
              go_wp2_with (go_at_call 5; (with_reducible refine (take_inv w E (N - 1) _ _ _ _ _ _ _ (inv_drew HI.out _) (by omega) (by omega) (by omega) ht.out).mono ?_); rintro x w' ⟨rfl, hi2⟩; have HJ := Lib.hid hi2; clear hi2)
              go_roundw
              case rel => exact ⟨E, N, k + 1, rfl, rfl, by go_num, by omega, by omega, by omega, by omega, by omega, HJ.out⟩
              case measure => simp [intOf]; omega
      · go_wp2_with (go_at_call 10; refine (sure_is _).mono ?_; rintro x w' ⟨rfl, hb⟩)
        go_ret
        exact ⟨rfl, HI.out.2.trans (hb.mono HI.out.2.size)⟩
    · go_wp2_with (go_at_call 10; refine (sure_is _).mono ?_; rintro x w' ⟨rfl, hb⟩)
      go_ret
      exact ⟨rfl, HI.out.2.trans (hb.mono HI.out.2.size)⟩

set_option maxRecDepth 100000 in
set_option maxHeartbeats 2000000 in
theorem once_zero (a : Option Addr) (cap : Nat) (w : World) :
    Calls Try.prog 4 #[.slice a 0 cap] w fun x w' => x = .returned (.bool true) ∧ Below w.heap.size w w' := by
  go_enter Try.func4, Try.ntmps4
  go_wp2_with fail
  refine (new_is _).mono ?_
  rintro x w0 ⟨rfl, hw⟩
  have hi : Inv w w0 0 0 := by rw [hw]; exact inv_new w
  clear hw
  have HI := Lib.hid hi
  clear hi
  go_wp2_with fail
  refine wp_loop_rounds 1 ?_
  rw [rounds_succ]
  go_wp2_with (go_at_call 10; refine (sure_is _).mono ?_; rintro x w' ⟨rfl, hb⟩)
  go_ret
  exact ⟨rfl, HI.out.2.trans (hb.mono HI.out.2.size)⟩

end Go.Proofs.Ytfomajippdcaoaa.Rc
