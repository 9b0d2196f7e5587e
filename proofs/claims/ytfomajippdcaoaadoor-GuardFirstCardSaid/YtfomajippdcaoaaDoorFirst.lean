/-
  The law GuardFirst, walked.
-/
import Derived.Test.YtfomajippdcaoaaDoorGuardSure
namespace Go.Proofs.YtfomajippdcaoaaDoor.Gu
open Go.RowKit Go.Proofs.YtfomajippdcaoaaDoorW.PrintWords Go.Proofs.YtfomajippdcaoaaDoorW.PrintLast Go.Proofs.YtfomajippdcaoaaDoorW.PrintMore Go.Proofs.YtfomajippdcaoaaDoor.PSet Go.Proofs.YtfomajippdcaoaaDoor.Sc

/-- what is refused -/
def Bad (who : List Int) (need : Int) (came : List Int) (is : Bool) (l : List Int) : Prop :=
  inc (-1) l = false ∨ (¬ ∀ x ∈ l, x ∈ who) ∨ (l.length : Int) < need ∨ (is = true ∧ l ≠ came)
def BadOut (w : World) (e : Ending) (w' : World) : Prop := ∃ code, e = .returned (.iface 75 (.int .i64 code)) ∧ Below w.heap.size w w'
section
variable {A : Option Addr} {n c g : Nat} {l who came : List Int} {need : Int} {is : Bool} {w : World}
theorem ask_bad (hs : St w g who need came is) (h : Rn w A n c l) (hn : n ≤ 1000) (hb : Bad who need came is l) :
    Calls Tryd.prog 17 #[.pointer (some ⟨g, 0, none⟩), .slice A n c] w (BadOut w) := by
  cases hi : inc (-1) l with
  | false => exact (ask_no h hn hi).mono fun _ _ h => ⟨_, h⟩
  | true =>
    by_cases ho : ∀ x ∈ l, x ∈ who
    · by_cases hf : (n : Int) < need
      · exact (ask_few hs h hn hi ho hf).mono fun _ _ h => ⟨_, h⟩
      · have hl := h.len
        obtain ⟨rfl, hne⟩ : is = true ∧ l ≠ came := by
          rcases hb with h1 | h1 | h1 | h1
          · rw [hi] at h1; cases h1
          · exact absurd ho h1
          · exact absurd h1 (by omega)
          · exact h1
        exact (ask_rule hs h hn hi ho hf hne).mono fun _ _ h => ⟨_, h⟩
    · exact (ask_other hs h hn hi ho).mono fun _ _ h => ⟨_, h⟩
theorem ask_good (hs : St w g who need came is) (h : Rn w A n c l) (hn : n ≤ 1000) (hb : ¬ Bad who need came is l) :
    Calls Tryd.prog 17 #[.pointer (some ⟨g, 0, none⟩), .slice A n c] w (Granted g who need l w) := by
  unfold Bad at hb
  have hl := h.len
  refine ask_ok hs h hn ?_ ?_ ?_ ?_
  · cases hi : inc (-1) l with
    | false => exact absurd (Or.inl hi) hb
    | true => rfl
  · exact Classical.byContradiction fun h1 => hb (Or.inr (Or.inl h1))
  · exact fun h1 => hb (Or.inr (Or.inr (Or.inl (by omega))))
  · exact fun h1 => Classical.byContradiction fun h2 => hb (Or.inr (Or.inr (Or.inr ⟨h1, h2⟩)))
end

theorem two_cell {w : World} {g : Nat} {x y : Value} (h : w.heap[g]? = some (.cells #[x, y] 52 (0, 0))) : w.cell? ⟨g, 0, none⟩ = some x ∧ w.cell? ⟨g, 1, none⟩ = some y := by
  simp [World.cell?, h]

set_option maxRecDepth 100000 in
set_option maxHeartbeats 1000000 in
theorem first_zero (A B1 B2 : Option Addr) (n c m1 d1 m2 d2 : Nat) (k : Int) (w : World) (hG : As.LaidG w) (hn : n = 0) :
    Calls Tryd.prog 6 #[.slice A n c, .agg #[.slice B1 m1 d1, .slice B2 m2 d2], .int .u8 k] w (Sc.Told (.bool true) w) := by
  have HG := Aside0.mk hG
  subst hn
  go_enter Tryd.func6, Tryd.ntmps6
  go_upto_region 1 with (fail)
  have GB : Aside0 ((w.alloc (.cells #[.slice B1 m1 d1, .slice B2 m2 d2] 52)).heap[w.heap.size]? = some (.cells #[.slice B1 m1 d1, .slice B2 m2 d2] 52 (0, 0))) := ⟨blk_new _ _⟩
  have HB : Aside0 (Below w.heap.size w (w.alloc (.cells #[.slice B1 m1 d1, .slice B2 m2 d2] 52))) := ⟨below_alloc (Below.refl _ _) _⟩
  generalize w.alloc (.cells #[.slice B1 m1 d1, .slice B2 m2 d2] 52) = wb at *
  obtain ⟨ce0, ce1⟩ := two_cell GB.out
  go_cut [7, 8] (fun v7 v8 wc => v7 = .slice B1 m1 d1 ∧ v8 = .slice B2 m2 d2 ∧ Below w.heap.size w wc)
  case first =>
    go_quiet (fail)
    go_wp2_with fail
    go_meet
    case rel => exact ⟨rfl, rfl, by first | exact HB.out | exact pw_below_drewN HB.out _⟩
  case rest =>
    clear ce0 ce1 HB
    obtain ⟨rfl, rfl, hb⟩ := hcut
    have HB := Aside0.mk hb
    clear hb
    go_wp2_with (go_at_call 15; (with_reducible refine (sure26 _ (As.LaidG.below HG.out HB.out)).mono ?_); rintro e ws ⟨rfl, hb⟩; have T1_ := Aside0.mk (below_step HB.out hb); clear HB; have HB := T1_; clear T1_ hb)
    go_ret
    exact ⟨rfl, HB.out⟩
set_option maxRecDepth 100000 in
set_option maxHeartbeats 1000000 in
theorem first_who (A B1 B2 : Option Addr) (n c m1 d1 m2 d2 : Nat) (k : Int) (w : World) (hG : As.LaidG w) (hn : 64 < n) :
    Calls Tryd.prog 6 #[.slice A n c, .agg #[.slice B1 m1 d1, .slice B2 m2 d2], .int .u8 k] w (Sc.Told (.bool true) w) := by
  have HG := Aside0.mk hG
  have z1 : decide ((n : Int) = 0) = false := decide_eq_false (by omega)
  have z2 : decide (n = 0) = false := decide_eq_false (by omega)
  have z3 : ((n : Int) == 0) = false := by simp; omega
  have q1 : decide (64 < (n : Int)) = true := decide_eq_true (by omega)
  have q2 : decide (64 < n) = true := decide_eq_true (by omega)
  clear hn
  go_enter Tryd.func6, Tryd.ntmps6
  go_upto_region 1 with (fail)
  have GB : Aside0 ((w.alloc (.cells #[.slice B1 m1 d1, .slice B2 m2 d2] 52)).heap[w.heap.size]? = some (.cells #[.slice B1 m1 d1, .slice B2 m2 d2] 52 (0, 0))) := ⟨blk_new _ _⟩
  have HB : Aside0 (Below w.heap.size w (w.alloc (.cells #[.slice B1 m1 d1, .slice B2 m2 d2] 52))) := ⟨below_alloc (Below.refl _ _) _⟩
  generalize w.alloc (.cells #[.slice B1 m1 d1, .slice B2 m2 d2] 52) = wb at *
  obtain ⟨ce0, ce1⟩ := two_cell GB.out
  go_cut [7, 8] (fun v7 v8 wc => v7 = .slice B1 m1 d1 ∧ v8 = .slice B2 m2 d2 ∧ Below w.heap.size w wc)
  case first =>
    go_quiet (fail)
    go_wp2_with fail
    go_meet
    case rel => exact ⟨rfl, rfl, by first | exact HB.out | exact pw_below_drewN HB.out _⟩
  case rest =>
    clear ce0 ce1 HB
    obtain ⟨rfl, rfl, hb⟩ := hcut
    have HB := Aside0.mk hb
    clear hb
    go_wp2_with (go_at_call 15; (with_reducible refine (sure26 _ (As.LaidG.below HG.out HB.out)).mono ?_); rintro e ws ⟨rfl, hb⟩; have T1_ := Aside0.mk (below_step HB.out hb); clear HB; have HB := T1_; clear T1_ hb)
    go_ret
    exact ⟨rfl, HB.out⟩
set_option maxRecDepth 100000 in
set_option maxHeartbeats 1000000 in
theorem first_came (A B1 B2 : Option Addr) (n c m1 d1 m2 d2 : Nat) (k : Int) (w : World) (hG : As.LaidG w) (h0 : 0 < n) (hn : ¬ 64 < n) (hm : 64 < m1) :
    Calls Tryd.prog 6 #[.slice A n c, .agg #[.slice B1 m1 d1, .slice B2 m2 d2], .int .u8 k] w (Sc.Told (.bool true) w) := by
  have HG := Aside0.mk hG
  have z1 : decide ((n : Int) = 0) = false := decide_eq_false (by omega)
  have z2 : decide (n = 0) = false := decide_eq_false (by omega)
  have z3 : ((n : Int) == 0) = false := by simp; omega
  have q1 : decide (64 < (n : Int)) = false := decide_eq_false (by omega)
  have q2 : decide (64 < n) = false := decide_eq_false (by omega)
  have p1 : decide (64 < (m1 : Int)) = true := decide_eq_true (by omega)
  have p2 : decide (64 < m1) = true := decide_eq_true (by omega)
  clear h0 hn hm
  go_enter Tryd.func6, Tryd.ntmps6
  go_upto_region 1 with (fail)
  have GB : Aside0 ((w.alloc (.cells #[.slice B1 m1 d1, .slice B2 m2 d2] 52)).heap[w.heap.size]? = some (.cells #[.slice B1 m1 d1, .slice B2 m2 d2] 52 (0, 0))) := ⟨blk_new _ _⟩
  have HB : Aside0 (Below w.heap.size w (w.alloc (.cells #[.slice B1 m1 d1, .slice B2 m2 d2] 52))) := ⟨below_alloc (Below.refl _ _) _⟩
  generalize w.alloc (.cells #[.slice B1 m1 d1, .slice B2 m2 d2] 52) = wb at *
  obtain ⟨ce0, ce1⟩ := two_cell GB.out
  go_cut [7, 8] (fun v7 v8 wc => v7 = .slice B1 m1 d1 ∧ v8 = .slice B2 m2 d2 ∧ Below w.heap.size w wc)
  case first =>
    go_quiet (fail)
    go_wp2_with fail
    go_meet
    case rel => exact ⟨rfl, rfl, by first | exact HB.out | exact pw_below_drewN HB.out _⟩
  case rest =>
    clear ce0 ce1 HB
    obtain ⟨rfl, rfl, hb⟩ := hcut
    have HB := Aside0.mk hb
    clear hb
    go_wp2_with (go_at_call 15; (with_reducible refine (sure26 _ (As.LaidG.below HG.out HB.out)).mono ?_); rintro e ws ⟨rfl, hb⟩; have T1_ := Aside0.mk (below_step HB.out hb); clear HB; have HB := T1_; clear T1_ hb)
    go_ret
    exact ⟨rfl, HB.out⟩
set_option maxRecDepth 100000 in
set_option maxHeartbeats 1000000 in
theorem first_other (A B1 B2 : Option Addr) (n c m1 d1 m2 d2 : Nat) (k : Int) (w : World) (hG : As.LaidG w) (h0 : 0 < n) (hn : ¬ 64 < n) (hm : ¬ 64 < m1) (hm2 : 64 < m2) :
    Calls Tryd.prog 6 #[.slice A n c, .agg #[.slice B1 m1 d1, .slice B2 m2 d2], .int .u8 k] w (Sc.Told (.bool true) w) := by
  have HG := Aside0.mk hG
  have z1 : decide ((n : Int) = 0) = false := decide_eq_false (by omega)
  have z2 : decide (n = 0) = false := decide_eq_false (by omega)
  have z3 : ((n : Int) == 0) = false := by simp; omega
  have q1 : decide (64 < (n : Int)) = false := decide_eq_false (by omega)
  have q2 : decide (64 < n) = false := decide_eq_false (by omega)
  have p1 : decide (64 < (m1 : Int)) = false := decide_eq_false (by omega)
  have p2 : decide (64 < m1) = false := decide_eq_false (by omega)
  have r1 : decide (64 < (m2 : Int)) = true := decide_eq_true (by omega)
  have r2 : decide (64 < m2) = true := decide_eq_true (by omega)
  clear h0 hn hm hm2
  go_enter Tryd.func6, Tryd.ntmps6
  go_upto_region 1 with (fail)
  have GB : Aside0 ((w.alloc (.cells #[.slice B1 m1 d1, .slice B2 m2 d2] 52)).heap[w.heap.size]? = some (.cells #[.slice B1 m1 d1, .slice B2 m2 d2] 52 (0, 0))) := ⟨blk_new _ _⟩
  have HB : Aside0 (Below w.heap.size w (w.alloc (.cells #[.slice B1 m1 d1, .slice B2 m2 d2] 52))) := ⟨below_alloc (Below.refl _ _) _⟩
  generalize w.alloc (.cells #[.slice B1 m1 d1, .slice B2 m2 d2] 52) = wb at *
  obtain ⟨ce0, ce1⟩ := two_cell GB.out
  go_cut [7, 8] (fun v7 v8 wc => v7 = .slice B1 m1 d1 ∧ v8 = .slice B2 m2 d2 ∧ Below w.heap.size w wc)
  case first =>
    go_quiet (fail)
    go_wp2_with fail
    go_meet
    case rel => exact ⟨rfl, rfl, by first | exact HB.out | exact pw_below_drewN HB.out _⟩
  case rest =>
    clear ce0 ce1 HB
    obtain ⟨rfl, rfl, hb⟩ := hcut
    have HB := Aside0.mk hb
    clear hb
    go_wp2_with (go_at_call 15; (with_reducible refine (sure26 _ (As.LaidG.below HG.out HB.out)).mono ?_); rintro e ws ⟨rfl, hb⟩; have T1_ := Aside0.mk (below_step HB.out hb); clear HB; have HB := T1_; clear T1_ hb)
    go_ret
    exact ⟨rfl, HB.out⟩
set_option maxRecDepth 100000 in
set_option maxHeartbeats 1000000 in
theorem first_new (A B1 B2 : Option Addr) (n c m1 d1 m2 d2 : Nat) (who came other : List Int) (k : Int) (w : World) (hG : As.LaidG w) (h0 : 0 < n) (hn : ¬ 64 < n) (hm : ¬ 64 < m1) (hm2 : ¬ 64 < m2) (hk0 : 0 ≤ k) (hk1 : k < 256) (hw : Rn w A n c who) (hr1 : Rn w B1 m1 d1 came) (hr2 : Rn w B2 m2 d2 other) (hi : inc (-1) who = false) :
    Calls Tryd.prog 6 #[.slice A n c, .agg #[.slice B1 m1 d1, .slice B2 m2 d2], .int .u8 k] w (Sc.Told (.bool true) w) := by
  have HG := Aside0.mk hG
  have RW := Aside0.mk hw
  have R1 := Aside0.mk hr1
  have R2 := Aside0.mk hr2
  have LN : Aside0 (n ≤ 1000) := ⟨by omega⟩
  have L1 : Aside0 (m1 ≤ 1000) := ⟨by omega⟩
  have L2 : Aside0 (m2 ≤ 1000) := ⟨by omega⟩
  have K0 : Aside0 (0 ≤ k % n) := ⟨Int.emod_nonneg _ (by omega)⟩
  have K1 : Aside0 (k % n < n) := ⟨Int.emod_lt_of_pos _ (by omega)⟩
  have hwr : wrap64 (1 + k % (n : Int)) = 1 + k % (n : Int) := by have := K0.out; have := K1.out; unfold wrap64; omega
  have z1 : decide ((n : Int) = 0) = false := decide_eq_false (by omega)
  have z2 : decide (n = 0) = false := decide_eq_false (by omega)
  have z3 : ((n : Int) == 0) = false := by simp; omega
  have q1 : decide (64 < (n : Int)) = false := decide_eq_false (by omega)
  have q2 : decide (64 < n) = false := decide_eq_false (by omega)
  have p1 : decide (64 < (m1 : Int)) = false := decide_eq_false (by omega)
  have p2 : decide (64 < m1) = false := decide_eq_false (by omega)
  have r1 : decide (64 < (m2 : Int)) = false := decide_eq_false (by omega)
  have r2 : decide (64 < m2) = false := decide_eq_false (by omega)
  have HI := Aside0.mk hi
  clear hi
  clear hw hr1 hr2 hm hm2 hn
  go_enter Tryd.func6, Tryd.ntmps6
  go_upto_region 1 with (fail)
  have GB : Aside0 ((w.alloc (.cells #[.slice B1 m1 d1, .slice B2 m2 d2] 52)).heap[w.heap.size]? = some (.cells #[.slice B1 m1 d1, .slice B2 m2 d2] 52 (0, 0))) := ⟨blk_new _ _⟩
  have HB : Aside0 (Below w.heap.size w (w.alloc (.cells #[.slice B1 m1 d1, .slice B2 m2 d2] 52))) := ⟨below_alloc (Below.refl _ _) _⟩
  generalize w.alloc (.cells #[.slice B1 m1 d1, .slice B2 m2 d2] 52) = wb at *
  obtain ⟨ce0, ce1⟩ := two_cell GB.out
  go_cut [7, 8] (fun v7 v8 wc => v7 = .slice B1 m1 d1 ∧ v8 = .slice B2 m2 d2 ∧ Below w.heap.size w wc)
  case first =>
    go_quiet (fail)
    go_wp2_with fail
    go_meet
    case rel => exact ⟨rfl, rfl, by first | exact HB.out | exact pw_below_drewN HB.out _⟩
  case rest =>
    clear ce0 ce1 HB
    obtain ⟨rfl, rfl, hb⟩ := hcut
    have HB := Aside0.mk hb
    clear hb
    have T1_ := Aside0.mk (Rn.below RW.out HB.out); clear RW; have RW := T1_; clear T1_
    have T1_ := Aside0.mk (Rn.below R1.out HB.out); clear R1; have R1 := T1_; clear T1_
    have T1_ := Aside0.mk (Rn.below R2.out HB.out); clear R2; have R2 := T1_; clear T1_
    skip
    go_wp2_with (first | (go_at_call 16; (with_reducible refine (new_no _ RW.out LN.out HI.out).mono ?_); rintro e wa ⟨rfl, hb⟩; have T1_ := Aside0.mk (Rn.below RW.out hb); clear RW; have RW := T1_; clear T1_; have T1_ := Aside0.mk (Rn.below R1.out hb); clear R1; have R1 := T1_; clear T1_; have T1_ := Aside0.mk (Rn.below R2.out hb); clear R2; have R2 := T1_; clear T1_; have T1_ := Aside0.mk (below_step HB.out hb); clear HB; have HB := T1_; clear T1_; clear hb) | (go_at_call 15; (with_reducible refine (sure26 _ (As.LaidG.below HG.out HB.out)).mono ?_); rintro e ws ⟨rfl, hb⟩; have T1_ := Aside0.mk (below_step HB.out hb); clear HB; have HB := T1_; clear T1_ hb))
    go_ret
    exact ⟨rfl, HB.out⟩
theorem Bad.more {who : List Int} {need : Int} {l x : List Int} {b : Bool} (h : Bad who need [] false l) : Bad who need x b l := by
  rcases h with h | h | h | h
  · exact Or.inl h
  · exact Or.inr (Or.inl h)
  · exact Or.inr (Or.inr (Or.inl h))
  · cases h.1

set_option maxRecDepth 100000 in
set_option maxHeartbeats 1000000 in
theorem first_bg (A B1 B2 : Option Addr) (n c m1 d1 m2 d2 : Nat) (who came other : List Int) (k : Int) (w : World) (hG : As.LaidG w) (h0 : 0 < n) (hn : ¬ 64 < n) (hm : ¬ 64 < m1) (hm2 : ¬ 64 < m2) (hk0 : 0 ≤ k) (hk1 : k < 256) (hw : Rn w A n c who) (hr1 : Rn w B1 m1 d1 came) (hr2 : Rn w B2 m2 d2 other) (hi : inc (-1) who = true) (hb1 : Bad who (1 + k % n) [] false came) (hb2 : ¬ Bad who (1 + k % n) [] false other) :
    Calls Tryd.prog 6 #[.slice A n c, .agg #[.slice B1 m1 d1, .slice B2 m2 d2], .int .u8 k] w (Sc.Told (.bool true) w) := by
  have HG := Aside0.mk hG
  have RW := Aside0.mk hw
  have R1 := Aside0.mk hr1
  have R2 := Aside0.mk hr2
  have LN : Aside0 (n ≤ 1000) := ⟨by omega⟩
  have L1 : Aside0 (m1 ≤ 1000) := ⟨by omega⟩
  have L2 : Aside0 (m2 ≤ 1000) := ⟨by omega⟩
  have K0 : Aside0 (0 ≤ k % n) := ⟨Int.emod_nonneg _ (by omega)⟩
  have K1 : Aside0 (k % n < n) := ⟨Int.emod_lt_of_pos _ (by omega)⟩
  have hwr : wrap64 (1 + k % (n : Int)) = 1 + k % (n : Int) := by have := K0.out; have := K1.out; unfold wrap64; omega
  have z1 : decide ((n : Int) = 0) = false := decide_eq_false (by omega)
  have z2 : decide (n = 0) = false := decide_eq_false (by omega)
  have z3 : ((n : Int) == 0) = false := by simp; omega
  have q1 : decide (64 < (n : Int)) = false := decide_eq_false (by omega)
  have q2 : decide (64 < n) = false := decide_eq_false (by omega)
  have p1 : decide (64 < (m1 : Int)) = false := decide_eq_false (by omega)
  have p2 : decide (64 < m1) = false := decide_eq_false (by omega)
  have r1 : decide (64 < (m2 : Int)) = false := decide_eq_false (by omega)
  have r2 : decide (64 < m2) = false := decide_eq_false (by omega)
  have HI := Aside0.mk hi
  have HD1 := Aside0.mk hb1
  have HD2 := Aside0.mk hb2
  have NW : Aside0 (0 < n → ∀ ad, A = some ad → ad.block < w.heap.size) := ⟨hw.lt⟩
  have N1 : Aside0 (0 < m1 → ∀ ad, B1 = some ad → ad.block < w.heap.size) := ⟨hr1.lt⟩
  have N2 : Aside0 (0 < m2 → ∀ ad, B2 = some ad → ad.block < w.heap.size) := ⟨hr2.lt⟩
  have HD3 : Aside0 (Bad who (1 + k % n) other true came) := ⟨hb1.more⟩
  clear hi hb1 hb2
  clear hw hr1 hr2 hm hm2 hn
  go_enter Tryd.func6, Tryd.ntmps6
  go_upto_region 1 with (fail)
  have GB : Aside0 ((w.alloc (.cells #[.slice B1 m1 d1, .slice B2 m2 d2] 52)).heap[w.heap.size]? = some (.cells #[.slice B1 m1 d1, .slice B2 m2 d2] 52 (0, 0))) := ⟨blk_new _ _⟩
  have HB : Aside0 (Below w.heap.size w (w.alloc (.cells #[.slice B1 m1 d1, .slice B2 m2 d2] 52))) := ⟨below_alloc (Below.refl _ _) _⟩
  generalize w.alloc (.cells #[.slice B1 m1 d1, .slice B2 m2 d2] 52) = wb at *
  obtain ⟨ce0, ce1⟩ := two_cell GB.out
  go_cut [7, 8] (fun v7 v8 wc => v7 = .slice B1 m1 d1 ∧ v8 = .slice B2 m2 d2 ∧ Below w.heap.size w wc)
  case first =>
    go_quiet (fail)
    go_wp2_with fail
    go_meet
    case rel => exact ⟨rfl, rfl, by first | exact HB.out | exact pw_below_drewN HB.out _⟩
  case rest =>
    clear ce0 ce1 HB
    obtain ⟨rfl, rfl, hb⟩ := hcut
    have HB := Aside0.mk hb
    clear hb
    have T1_ := Aside0.mk (Rn.below RW.out HB.out); clear RW; have RW := T1_; clear T1_
    have T1_ := Aside0.mk (Rn.below R1.out HB.out); clear R1; have R1 := T1_; clear T1_
    have T1_ := Aside0.mk (Rn.below R2.out HB.out); clear R2; have R2 := T1_; clear T1_
    skip
    go_upto_region 14 with (first | (go_at_call 16; (with_reducible refine (new_ok _ RW.out LN.out HI.out (by have := K0.out; omega) (by have := K1.out; omega)).mono ?_); rintro e wa ⟨g, rfl, hs, hb, hl⟩; have ST := Aside0.mk hs; have HL := Aside0.mk (Nat.le_trans HB.out.size hl); have T1_ := Aside0.mk (Rn.below RW.out hb); clear RW; have RW := T1_; clear T1_; have T1_ := Aside0.mk (Rn.below R1.out hb); clear R1; have R1 := T1_; clear T1_; have T1_ := Aside0.mk (Rn.below R2.out hb); clear R2; have R2 := T1_; clear T1_; have T1_ := Aside0.mk (below_step HB.out hb); clear HB; have HB := T1_; clear T1_; clear hb hs hl) | (go_at_call 17; (with_reducible refine (ask_bad ST.out R1.out L1.out HD1.out).mono ?_); rintro e wa ⟨code, rfl, hb⟩; have T1_ := Aside0.mk (ST.out.below hb); clear ST; have ST := T1_; clear T1_; have T1_ := Aside0.mk (Rn.below RW.out hb); clear RW; have RW := T1_; clear T1_; have T1_ := Aside0.mk (Rn.below R1.out hb); clear R1; have R1 := T1_; clear T1_; have T1_ := Aside0.mk (Rn.below R2.out hb); clear R2; have R2 := T1_; clear T1_; have T1_ := Aside0.mk (below_step HB.out hb); clear HB; have HB := T1_; clear T1_; clear hb) | (go_at_call 20; (with_reducible refine (came_is ST.out).mono ?_); rintro e wa ⟨ARC, nRC, cRC, rfl, hr, hb⟩; have RC := Aside0.mk hr; have T1_ := Aside0.mk (ST.out.below hb); clear ST; have ST := T1_; clear T1_; have T1_ := Aside0.mk (Rn.below RW.out hb); clear RW; have RW := T1_; clear T1_; have T1_ := Aside0.mk (Rn.below R1.out hb); clear R1; have R1 := T1_; clear T1_; have T1_ := Aside0.mk (Rn.below R2.out hb); clear R2; have R2 := T1_; clear T1_; have T1_ := Aside0.mk (below_step HB.out hb); clear HB; have HB := T1_; clear T1_; clear hb hr) | (go_at_call 17; (with_reducible refine (ask_good ST.out R2.out L2.out HD2.out).mono ?_); rintro e wa ⟨rfl, hs, hg⟩; clear ST; have ST := Aside0.mk hs; have T1_ := Aside0.mk (Rn.grown RW.out hg (fun hp ad e => by have := NW.out hp ad e; have := HL.out; omega)); clear RW; have RW := T1_; clear T1_; have T1_ := Aside0.mk (Rn.grown R1.out hg (fun hp ad e => by have := N1.out hp ad e; have := HL.out; omega)); clear R1; have R1 := T1_; clear T1_; have T1_ := Aside0.mk (Rn.grown R2.out hg (fun hp ad e => by have := N2.out hp ad e; have := HL.out; omega)); clear R2; have R2 := T1_; clear T1_; have T1_ := Aside0.mk (grant_below HB.out hg HL.out); clear HB; have HB := T1_; clear T1_ hs hg) | (go_at_call 20; (with_reducible refine (came_is ST.out).mono ?_); rintro e wa ⟨ARM, nRM, cRM, rfl, hr, hb⟩; have RM := Aside0.mk hr; have T1_ := Aside0.mk (ST.out.below hb); clear ST; have ST := T1_; clear T1_; have T1_ := Aside0.mk (Rn.below RW.out hb); clear RW; have RW := T1_; clear T1_; have T1_ := Aside0.mk (Rn.below R1.out hb); clear R1; have R1 := T1_; clear T1_; have T1_ := Aside0.mk (Rn.below R2.out hb); clear R2; have R2 := T1_; clear T1_; have T1_ := Aside0.mk (below_step HB.out hb); clear HB; have HB := T1_; clear T1_; clear hb hr))
    go_cut [110] (fun v wx => v = .bool false ∧ St wx g who (1 + k % n) other true ∧ Rn wx B1 m1 d1 came ∧ Below w.heap.size w wx)
    case first =>
      go_quiet (fail)
      go_wp2_with fail
      go_meet
      case rel =>
        first
          | exact ⟨rfl, ST.out, R1.out, HB.out⟩
          | exact ⟨rfl, ST.out.below (pw_below_drewN (Below.refl _ _) _), R1.out.below (pw_below_drewN (Below.refl _ _) _), pw_below_drewN HB.out _⟩
    case rest =>
      obtain ⟨rfl, hs, hr, hb⟩ := hcut
      clear ST R1 HB
      have ST := Aside0.mk hs
      have R1 := Aside0.mk hr
      have HB := Aside0.mk hb
      clear hs hr hb RW R2 RC
      go_wp2_with (first | (go_at_call 17; (with_reducible refine (ask_bad ST.out R1.out L1.out HD3.out).mono ?_); rintro e wa ⟨code, rfl, hb⟩; have T1_ := Aside0.mk (ST.out.below hb); clear ST; have ST := T1_; clear T1_; have T1_ := Aside0.mk (Rn.below R1.out hb); clear R1; have R1 := T1_; clear T1_; have T1_ := Aside0.mk (below_step HB.out hb); clear HB; have HB := T1_; clear T1_; clear hb) | (go_at_call 15; (with_reducible refine (sure26 _ (As.LaidG.below HG.out HB.out)).mono ?_); rintro e ws ⟨rfl, hb⟩; have T1_ := Aside0.mk (below_step HB.out hb); clear HB; have HB := T1_; clear T1_ hb))
      go_ret
      exact ⟨rfl, HB.out⟩
set_option maxRecDepth 100000 in
set_option maxHeartbeats 1000000 in
theorem first_bb (A B1 B2 : Option Addr) (n c m1 d1 m2 d2 : Nat) (who came other : List Int) (k : Int) (w : World) (hG : As.LaidG w) (h0 : 0 < n) (hn : ¬ 64 < n) (hm : ¬ 64 < m1) (hm2 : ¬ 64 < m2) (hk0 : 0 ≤ k) (hk1 : k < 256) (hw : Rn w A n c who) (hr1 : Rn w B1 m1 d1 came) (hr2 : Rn w B2 m2 d2 other) (hi : inc (-1) who = true) (hb1 : Bad who (1 + k % n) [] false came) (hb2 : Bad who (1 + k % n) [] false other) :
    Calls Tryd.prog 6 #[.slice A n c, .agg #[.slice B1 m1 d1, .slice B2 m2 d2], .int .u8 k] w (Sc.Told (.bool true) w) := by
  have HG := Aside0.mk hG
  have RW := Aside0.mk hw
  have R1 := Aside0.mk hr1
  have R2 := Aside0.mk hr2
  have LN : Aside0 (n ≤ 1000) := ⟨by omega⟩
  have L1 : Aside0 (m1 ≤ 1000) := ⟨by omega⟩
  have L2 : Aside0 (m2 ≤ 1000) := ⟨by omega⟩
  have K0 : Aside0 (0 ≤ k % n) := ⟨Int.emod_nonneg _ (by omega)⟩
  have K1 : Aside0 (k % n < n) := ⟨Int.emod_lt_of_pos _ (by omega)⟩
  have hwr : wrap64 (1 + k % (n : Int)) = 1 + k % (n : Int) := by have := K0.out; have := K1.out; unfold wrap64; omega
  have z1 : decide ((n : Int) = 0) = false := decide_eq_false (by omega)
  have z2 : decide (n = 0) = false := decide_eq_false (by omega)
  have z3 : ((n : Int) == 0) = false := by simp; omega
  have q1 : decide (64 < (n : Int)) = false := decide_eq_false (by omega)
  have q2 : decide (64 < n) = false := decide_eq_false (by omega)
  have p1 : decide (64 < (m1 : Int)) = false := decide_eq_false (by omega)
  have p2 : decide (64 < m1) = false := decide_eq_false (by omega)
  have r1 : decide (64 < (m2 : Int)) = false := decide_eq_false (by omega)
  have r2 : decide (64 < m2) = false := decide_eq_false (by omega)
  have HI := Aside0.mk hi
  have HD1 := Aside0.mk hb1
  have HD2 := Aside0.mk hb2
  have NW : Aside0 (0 < n → ∀ ad, A = some ad → ad.block < w.heap.size) := ⟨hw.lt⟩
  have N1 : Aside0 (0 < m1 → ∀ ad, B1 = some ad → ad.block < w.heap.size) := ⟨hr1.lt⟩
  have N2 : Aside0 (0 < m2 → ∀ ad, B2 = some ad → ad.block < w.heap.size) := ⟨hr2.lt⟩
  clear hi hb1 hb2
  clear hw hr1 hr2 hm hm2 hn
  go_enter Tryd.func6, Tryd.ntmps6
  go_upto_region 1 with (fail)
  have GB : Aside0 ((w.alloc (.cells #[.slice B1 m1 d1, .slice B2 m2 d2] 52)).heap[w.heap.size]? = some (.cells #[.slice B1 m1 d1, .slice B2 m2 d2] 52 (0, 0))) := ⟨blk_new _ _⟩
  have HB : Aside0 (Below w.heap.size w (w.alloc (.cells #[.slice B1 m1 d1, .slice B2 m2 d2] 52))) := ⟨below_alloc (Below.refl _ _) _⟩
  generalize w.alloc (.cells #[.slice B1 m1 d1, .slice B2 m2 d2] 52) = wb at *
  obtain ⟨ce0, ce1⟩ := two_cell GB.out
  go_cut [7, 8] (fun v7 v8 wc => v7 = .slice B1 m1 d1 ∧ v8 = .slice B2 m2 d2 ∧ Below w.heap.size w wc)
  case first =>
    go_quiet (fail)
    go_wp2_with fail
    go_meet
    case rel => exact ⟨rfl, rfl, by first | exact HB.out | exact pw_below_drewN HB.out _⟩
  case rest =>
    clear ce0 ce1 HB
    obtain ⟨rfl, rfl, hb⟩ := hcut
    have HB := Aside0.mk hb
    clear hb
    have T1_ := Aside0.mk (Rn.below RW.out HB.out); clear RW; have RW := T1_; clear T1_
    have T1_ := Aside0.mk (Rn.below R1.out HB.out); clear R1; have R1 := T1_; clear T1_
    have T1_ := Aside0.mk (Rn.below R2.out HB.out); clear R2; have R2 := T1_; clear T1_
    skip
    go_upto_region 14 with (first | (go_at_call 16; (with_reducible refine (new_ok _ RW.out LN.out HI.out (by have := K0.out; omega) (by have := K1.out; omega)).mono ?_); rintro e wa ⟨g, rfl, hs, hb, hl⟩; have ST := Aside0.mk hs; have HL := Aside0.mk (Nat.le_trans HB.out.size hl); have T1_ := Aside0.mk (Rn.below RW.out hb); clear RW; have RW := T1_; clear T1_; have T1_ := Aside0.mk (Rn.below R1.out hb); clear R1; have R1 := T1_; clear T1_; have T1_ := Aside0.mk (Rn.below R2.out hb); clear R2; have R2 := T1_; clear T1_; have T1_ := Aside0.mk (below_step HB.out hb); clear HB; have HB := T1_; clear T1_; clear hb hs hl) | (go_at_call 17; (with_reducible refine (ask_bad ST.out R1.out L1.out HD1.out).mono ?_); rintro e wa ⟨code, rfl, hb⟩; have T1_ := Aside0.mk (ST.out.below hb); clear ST; have ST := T1_; clear T1_; have T1_ := Aside0.mk (Rn.below RW.out hb); clear RW; have RW := T1_; clear T1_; have T1_ := Aside0.mk (Rn.below R1.out hb); clear R1; have R1 := T1_; clear T1_; have T1_ := Aside0.mk (Rn.below R2.out hb); clear R2; have R2 := T1_; clear T1_; have T1_ := Aside0.mk (below_step HB.out hb); clear HB; have HB := T1_; clear T1_; clear hb) | (go_at_call 20; (with_reducible refine (came_is ST.out).mono ?_); rintro e wa ⟨ARC, nRC, cRC, rfl, hr, hb⟩; have RC := Aside0.mk hr; have T1_ := Aside0.mk (ST.out.below hb); clear ST; have ST := T1_; clear T1_; have T1_ := Aside0.mk (Rn.below RW.out hb); clear RW; have RW := T1_; clear T1_; have T1_ := Aside0.mk (Rn.below R1.out hb); clear R1; have R1 := T1_; clear T1_; have T1_ := Aside0.mk (Rn.below R2.out hb); clear R2; have R2 := T1_; clear T1_; have T1_ := Aside0.mk (below_step HB.out hb); clear HB; have HB := T1_; clear T1_; clear hb hr) | (go_at_call 17; (with_reducible refine (ask_bad ST.out R2.out L2.out HD2.out).mono ?_); rintro e wa ⟨code, rfl, hb⟩; have T1_ := Aside0.mk (ST.out.below hb); clear ST; have ST := T1_; clear T1_; have T1_ := Aside0.mk (Rn.below RW.out hb); clear RW; have RW := T1_; clear T1_; have T1_ := Aside0.mk (Rn.below R1.out hb); clear R1; have R1 := T1_; clear T1_; have T1_ := Aside0.mk (Rn.below R2.out hb); clear R2; have R2 := T1_; clear T1_; have T1_ := Aside0.mk (below_step HB.out hb); clear HB; have HB := T1_; clear T1_; clear hb) | (go_at_call 20; (with_reducible refine (came_is ST.out).mono ?_); rintro e wa ⟨ARM, nRM, cRM, rfl, hr, hb⟩; have RM := Aside0.mk hr; have T1_ := Aside0.mk (ST.out.below hb); clear ST; have ST := T1_; clear T1_; have T1_ := Aside0.mk (Rn.below RW.out hb); clear RW; have RW := T1_; clear T1_; have T1_ := Aside0.mk (Rn.below R1.out hb); clear R1; have R1 := T1_; clear T1_; have T1_ := Aside0.mk (Rn.below R2.out hb); clear R2; have R2 := T1_; clear T1_; have T1_ := Aside0.mk (below_step HB.out hb); clear HB; have HB := T1_; clear T1_; clear hb hr))
    go_cut [110] (fun v wx => v = .bool false ∧ St wx g who (1 + k % n) [] false ∧ Rn wx B1 m1 d1 came ∧ Below w.heap.size w wx)
    case first =>
      go_quiet (fail)
      go_wp2_with fail
      go_meet
      case rel =>
        first
          | exact ⟨rfl, ST.out, R1.out, HB.out⟩
          | exact ⟨rfl, ST.out.below (pw_below_drewN (Below.refl _ _) _), R1.out.below (pw_below_drewN (Below.refl _ _) _), pw_below_drewN HB.out _⟩
    case rest =>
      obtain ⟨rfl, hs, hr, hb⟩ := hcut
      clear ST R1 HB
      have ST := Aside0.mk hs
      have R1 := Aside0.mk hr
      have HB := Aside0.mk hb
      clear hs hr hb RW R2 RC
      go_wp2_with (first | (go_at_call 17; (with_reducible refine (ask_bad ST.out R1.out L1.out HD1.out).mono ?_); rintro e wa ⟨code, rfl, hb⟩; have T1_ := Aside0.mk (ST.out.below hb); clear ST; have ST := T1_; clear T1_; have T1_ := Aside0.mk (Rn.below R1.out hb); clear R1; have R1 := T1_; clear T1_; have T1_ := Aside0.mk (below_step HB.out hb); clear HB; have HB := T1_; clear T1_; clear hb) | (go_at_call 15; (with_reducible refine (sure26 _ (As.LaidG.below HG.out HB.out)).mono ?_); rintro e ws ⟨rfl, hb⟩; have T1_ := Aside0.mk (below_step HB.out hb); clear HB; have HB := T1_; clear T1_ hb))
      go_ret
      exact ⟨rfl, HB.out⟩
theorem Bad.again {who : List Int} {need : Int} {l : List Int} (h : ¬ Bad who need [] false l) : ¬ Bad who need l true l := by
  rintro (h1 | h1 | h1 | h1)
  · exact h (Or.inl h1)
  · exact h (Or.inr (Or.inl h1))
  · exact h (Or.inr (Or.inr (Or.inl h1)))
  · exact h1.2 rfl

set_option maxRecDepth 100000 in
set_option maxHeartbeats 1000000 in
theorem first_gb (A B1 B2 : Option Addr) (n c m1 d1 m2 d2 : Nat) (who came other : List Int) (k : Int) (w : World) (hG : As.LaidG w) (h0 : 0 < n) (hn : ¬ 64 < n) (hm : ¬ 64 < m1) (hm2 : ¬ 64 < m2) (hk0 : 0 ≤ k) (hk1 : k < 256) (hw : Rn w A n c who) (hr1 : Rn w B1 m1 d1 came) (hr2 : Rn w B2 m2 d2 other) (hi : inc (-1) who = true) (hb1 : ¬ Bad who (1 + k % n) [] false came) (hb2 : Bad who (1 + k % n) came true other) :
    Calls Tryd.prog 6 #[.slice A n c, .agg #[.slice B1 m1 d1, .slice B2 m2 d2], .int .u8 k] w (Sc.Told (.bool true) w) := by
  have HG := Aside0.mk hG
  have RW := Aside0.mk hw
  have R1 := Aside0.mk hr1
  have R2 := Aside0.mk hr2
  have LN : Aside0 (n ≤ 1000) := ⟨by omega⟩
  have L1 : Aside0 (m1 ≤ 1000) := ⟨by omega⟩
  have L2 : Aside0 (m2 ≤ 1000) := ⟨by omega⟩
  have K0 : Aside0 (0 ≤ k % n) := ⟨Int.emod_nonneg _ (by omega)⟩
  have K1 : Aside0 (k % n < n) := ⟨Int.emod_lt_of_pos _ (by omega)⟩
  have hwr : wrap64 (1 + k % (n : Int)) = 1 + k % (n : Int) := by have := K0.out; have := K1.out; unfold wrap64; omega
  have z1 : decide ((n : Int) = 0) = false := decide_eq_false (by omega)
  have z2 : decide (n = 0) = false := decide_eq_false (by omega)
  have z3 : ((n : Int) == 0) = false := by simp; omega
  have q1 : decide (64 < (n : Int)) = false := decide_eq_false (by omega)
  have q2 : decide (64 < n) = false := decide_eq_false (by omega)
  have p1 : decide (64 < (m1 : Int)) = false := decide_eq_false (by omega)
  have p2 : decide (64 < m1) = false := decide_eq_false (by omega)
  have r1 : decide (64 < (m2 : Int)) = false := decide_eq_false (by omega)
  have r2 : decide (64 < m2) = false := decide_eq_false (by omega)
  have HI := Aside0.mk hi
  have HD1 := Aside0.mk hb1
  have HD2 := Aside0.mk hb2
  have NW : Aside0 (0 < n → ∀ ad, A = some ad → ad.block < w.heap.size) := ⟨hw.lt⟩
  have N1 : Aside0 (0 < m1 → ∀ ad, B1 = some ad → ad.block < w.heap.size) := ⟨hr1.lt⟩
  have N2 : Aside0 (0 < m2 → ∀ ad, B2 = some ad → ad.block < w.heap.size) := ⟨hr2.lt⟩
  have hnf : ¬ (m1 : Int) < 1 + k % n := fun h => hb1 (Or.inr (Or.inr (Or.inl (by have := hr1.len; omega))))
  have u1 : decide ((m1 : Int) < 1 + k % n) = false := decide_eq_false hnf
  clear hnf
  have E2 : Aside0 (decide (other = came) = false) := ⟨decide_eq_false (fun e => by subst e; exact Bad.again hb1 hb2)⟩
  have HD3 : Aside0 (¬ Bad who (1 + k % n) came true came) := ⟨Bad.again hb1⟩
  clear hi hb1 hb2
  clear hw hr1 hr2 hm hm2 hn
  go_enter Tryd.func6, Tryd.ntmps6
  go_upto_region 1 with (fail)
  have GB : Aside0 ((w.alloc (.cells #[.slice B1 m1 d1, .slice B2 m2 d2] 52)).heap[w.heap.size]? = some (.cells #[.slice B1 m1 d1, .slice B2 m2 d2] 52 (0, 0))) := ⟨blk_new _ _⟩
  have HB : Aside0 (Below w.heap.size w (w.alloc (.cells #[.slice B1 m1 d1, .slice B2 m2 d2] 52))) := ⟨below_alloc (Below.refl _ _) _⟩
  generalize w.alloc (.cells #[.slice B1 m1 d1, .slice B2 m2 d2] 52) = wb at *
  obtain ⟨ce0, ce1⟩ := two_cell GB.out
  go_cut [7, 8] (fun v7 v8 wc => v7 = .slice B1 m1 d1 ∧ v8 = .slice B2 m2 d2 ∧ Below w.heap.size w wc)
  case first =>
    go_quiet (fail)
    go_wp2_with fail
    go_meet
    case rel => exact ⟨rfl, rfl, by first | exact HB.out | exact pw_below_drewN HB.out _⟩
  case rest =>
    clear ce0 ce1 HB
    obtain ⟨rfl, rfl, hb⟩ := hcut
    have HB := Aside0.mk hb
    clear hb
    have T1_ := Aside0.mk (Rn.below RW.out HB.out); clear RW; have RW := T1_; clear T1_
    have T1_ := Aside0.mk (Rn.below R1.out HB.out); clear R1; have R1 := T1_; clear T1_
    have T1_ := Aside0.mk (Rn.below R2.out HB.out); clear R2; have R2 := T1_; clear T1_
    skip
    go_upto_region 14 with (first | (go_at_call 16; (with_reducible refine (new_ok _ RW.out LN.out HI.out (by have := K0.out; omega) (by have := K1.out; omega)).mono ?_); rintro e wa ⟨g, rfl, hs, hb, hl⟩; have ST := Aside0.mk hs; have HL := Aside0.mk (Nat.le_trans HB.out.size hl); have T1_ := Aside0.mk (Rn.below RW.out hb); clear RW; have RW := T1_; clear T1_; have T1_ := Aside0.mk (Rn.below R1.out hb); clear R1; have R1 := T1_; clear T1_; have T1_ := Aside0.mk (Rn.below R2.out hb); clear R2; have R2 := T1_; clear T1_; have T1_ := Aside0.mk (below_step HB.out hb); clear HB; have HB := T1_; clear T1_; clear hb hs hl) | (go_at_call 17; (with_reducible refine (ask_good ST.out R1.out L1.out HD1.out).mono ?_); rintro e wa ⟨rfl, hs, hg⟩; clear ST; have ST := Aside0.mk hs; have T1_ := Aside0.mk (Rn.grown RW.out hg (fun hp ad e => by have := NW.out hp ad e; have := HL.out; omega)); clear RW; have RW := T1_; clear T1_; have T1_ := Aside0.mk (Rn.grown R1.out hg (fun hp ad e => by have := N1.out hp ad e; have := HL.out; omega)); clear R1; have R1 := T1_; clear T1_; have T1_ := Aside0.mk (Rn.grown R2.out hg (fun hp ad e => by have := N2.out hp ad e; have := HL.out; omega)); clear R2; have R2 := T1_; clear T1_; have T1_ := Aside0.mk (grant_below HB.out hg HL.out); clear HB; have HB := T1_; clear T1_ hs hg) | (go_at_call 20; (with_reducible refine (came_is ST.out).mono ?_); rintro e wa ⟨ARC, nRC, cRC, rfl, hr, hb⟩; have RC := Aside0.mk hr; have T1_ := Aside0.mk (ST.out.below hb); clear ST; have ST := T1_; clear T1_; have T1_ := Aside0.mk (Rn.below RW.out hb); clear RW; have RW := T1_; clear T1_; have T1_ := Aside0.mk (Rn.below R1.out hb); clear R1; have R1 := T1_; clear T1_; have T1_ := Aside0.mk (Rn.below R2.out hb); clear R2; have R2 := T1_; clear T1_; have T1_ := Aside0.mk (below_step HB.out hb); clear HB; have HB := T1_; clear T1_; clear hb hr) | (go_at_call 24; (with_reducible refine (ints_is true RC.out (by have := RC.out.len; have := R1.out.len; have := L1.out; omega) R1.out (decide_eq_true rfl)).mono ?_); rintro e wa ⟨rfl, hb⟩; have T1_ := Aside0.mk (ST.out.below hb); clear ST; have ST := T1_; clear T1_; have T1_ := Aside0.mk (Rn.below RW.out hb); clear RW; have RW := T1_; clear T1_; have T1_ := Aside0.mk (Rn.below R1.out hb); clear R1; have R1 := T1_; clear T1_; have T1_ := Aside0.mk (Rn.below R2.out hb); clear R2; have R2 := T1_; clear T1_; have T1_ := Aside0.mk (below_step HB.out hb); clear HB; have HB := T1_; clear T1_; clear hb) | (go_at_call 17; (with_reducible refine (ask_bad ST.out R2.out L2.out HD2.out).mono ?_); rintro e wa ⟨code, rfl, hb⟩; have T1_ := Aside0.mk (ST.out.below hb); clear ST; have ST := T1_; clear T1_; have T1_ := Aside0.mk (Rn.below RW.out hb); clear RW; have RW := T1_; clear T1_; have T1_ := Aside0.mk (Rn.below R1.out hb); clear R1; have R1 := T1_; clear T1_; have T1_ := Aside0.mk (Rn.below R2.out hb); clear R2; have R2 := T1_; clear T1_; have T1_ := Aside0.mk (below_step HB.out hb); clear HB; have HB := T1_; clear T1_; clear hb))
    go_cut [110] (fun v wx => v = .bool false ∧ St wx g who (1 + k % n) came true ∧ Rn wx B1 m1 d1 came ∧ Below w.heap.size w wx)
    case first =>
      go_region_with (first | (go_at_call 24; (with_reducible refine (ints_is true (Rn.below RC.out (by first | exact Below.refl _ _ | exact below_drew (Below.refl _ _) | exact TB.out | exact below_drew TB.out)) (by have := RC.out.len; have := R1.out.len; have := L1.out; omega) (Rn.below R1.out (by first | exact Below.refl _ _ | exact below_drew (Below.refl _ _) | exact TB.out | exact below_drew TB.out)) (decide_eq_true rfl)).mono ?_); rintro e wz ⟨rfl, hb⟩; have TB := Aside0.mk (below_step (w := wa) (by first | exact Below.refl _ _ | exact below_drew (Below.refl _ _) | exact TB.out | exact below_drew TB.out) hb); clear hb) | (go_at_call 24; (with_reducible refine (ints_is false (Rn.below R2.out (by first | exact Below.refl _ _ | exact below_drew (Below.refl _ _) | exact TB.out | exact below_drew TB.out)) L2.out (Rn.below R1.out (by first | exact Below.refl _ _ | exact below_drew (Below.refl _ _) | exact TB.out | exact below_drew TB.out)) E2.out).mono ?_); rintro e wz ⟨rfl, hb⟩; have TB := Aside0.mk (below_step (w := wa) (by first | exact Below.refl _ _ | exact below_drew (Below.refl _ _) | exact TB.out | exact below_drew TB.out) hb); clear hb))
      all_goals go_wp2_with fail
      all_goals go_meet
      all_goals (case rel => exact ⟨rfl, ST.out.below (by first | exact Below.refl _ _ | exact below_drew (Below.refl _ _) | exact TB.out | exact below_drew TB.out), R1.out.below (by first | exact Below.refl _ _ | exact below_drew (Below.refl _ _) | exact TB.out | exact below_drew TB.out), below_step HB.out (by first | exact Below.refl _ _ | exact below_drew (Below.refl _ _) | exact TB.out | exact below_drew TB.out)⟩)
    case rest =>
      obtain ⟨rfl, hs, hr, hb⟩ := hcut
      clear ST R1 HB
      have ST := Aside0.mk hs
      have R1 := Aside0.mk hr
      have HB := Aside0.mk hb
      clear hs hr hb RW R2 RC
      go_wp2_with (first | (go_at_call 17; (with_reducible refine (ask_good ST.out R1.out L1.out HD3.out).mono ?_); rintro e wa ⟨rfl, hs, hg⟩; clear ST; have ST := Aside0.mk hs; have T1_ := Aside0.mk (Rn.grown R1.out hg (fun hp ad e => by have := N1.out hp ad e; have := HL.out; omega)); clear R1; have R1 := T1_; clear T1_; have T1_ := Aside0.mk (grant_below HB.out hg HL.out); clear HB; have HB := T1_; clear T1_ hs hg) | (go_at_call 15; (with_reducible refine (sure26 _ (As.LaidG.below HG.out HB.out)).mono ?_); rintro e ws ⟨rfl, hb⟩; have T1_ := Aside0.mk (below_step HB.out hb); clear HB; have HB := T1_; clear T1_ hb))
      go_ret
      exact ⟨rfl, HB.out⟩
set_option maxRecDepth 100000 in
set_option maxHeartbeats 1000000 in
theorem first_gg (A B1 B2 : Option Addr) (n c m1 d1 m2 d2 : Nat) (who came other : List Int) (k : Int) (w : World) (hG : As.LaidG w) (h0 : 0 < n) (hn : ¬ 64 < n) (hm : ¬ 64 < m1) (hm2 : ¬ 64 < m2) (hk0 : 0 ≤ k) (hk1 : k < 256) (hw : Rn w A n c who) (hr1 : Rn w B1 m1 d1 came) (hr2 : Rn w B2 m2 d2 other) (hi : inc (-1) who = true) (hb1 : ¬ Bad who (1 + k % n) [] false came) (he : came = other) :
    Calls Tryd.prog 6 #[.slice A n c, .agg #[.slice B1 m1 d1, .slice B2 m2 d2], .int .u8 k] w (Sc.Told (.bool true) w) := by
  have HG := Aside0.mk hG
  have RW := Aside0.mk hw
  have R1 := Aside0.mk hr1
  have R2 := Aside0.mk hr2
  have LN : Aside0 (n ≤ 1000) := ⟨by omega⟩
  have L1 : Aside0 (m1 ≤ 1000) := ⟨by omega⟩
  have L2 : Aside0 (m2 ≤ 1000) := ⟨by omega⟩
  have K0 : Aside0 (0 ≤ k % n) := ⟨Int.emod_nonneg _ (by omega)⟩
  have K1 : Aside0 (k % n < n) := ⟨Int.emod_lt_of_pos _ (by omega)⟩
  have hwr : wrap64 (1 + k % (n : Int)) = 1 + k % (n : Int) := by have := K0.out; have := K1.out; unfold wrap64; omega
  have z1 : decide ((n : Int) = 0) = false := decide_eq_false (by omega)
  have z2 : decide (n = 0) = false := decide_eq_false (by omega)
  have z3 : ((n : Int) == 0) = false := by simp; omega
  have q1 : decide (64 < (n : Int)) = false := decide_eq_false (by omega)
  have q2 : decide (64 < n) = false := decide_eq_false (by omega)
  have p1 : decide (64 < (m1 : Int)) = false := decide_eq_false (by omega)
  have p2 : decide (64 < m1) = false := decide_eq_false (by omega)
  have r1 : decide (64 < (m2 : Int)) = false := decide_eq_false (by omega)
  have r2 : decide (64 < m2) = false := decide_eq_false (by omega)
  have HI := Aside0.mk hi
  have HD1 := Aside0.mk hb1
  have NW : Aside0 (0 < n → ∀ ad, A = some ad → ad.block < w.heap.size) := ⟨hw.lt⟩
  have N1 : Aside0 (0 < m1 → ∀ ad, B1 = some ad → ad.block < w.heap.size) := ⟨hr1.lt⟩
  have N2 : Aside0 (0 < m2 → ∀ ad, B2 = some ad → ad.block < w.heap.size) := ⟨hr2.lt⟩
  have hnf : ¬ (m1 : Int) < 1 + k % n := fun h => hb1 (Or.inr (Or.inr (Or.inl (by have := hr1.len; omega))))
  have u1 : decide ((m1 : Int) < 1 + k % n) = false := decide_eq_false hnf
  clear hnf
  subst he
  have HD3 : Aside0 (¬ Bad who (1 + k % n) came true came) := ⟨Bad.again hb1⟩
  clear hi hb1
  clear hw hr1 hr2 hm hm2 hn
  go_enter Tryd.func6, Tryd.ntmps6
  go_upto_region 1 with (fail)
  have GB : Aside0 ((w.alloc (.cells #[.slice B1 m1 d1, .slice B2 m2 d2] 52)).heap[w.heap.size]? = some (.cells #[.slice B1 m1 d1, .slice B2 m2 d2] 52 (0, 0))) := ⟨blk_new _ _⟩
  have HB : Aside0 (Below w.heap.size w (w.alloc (.cells #[.slice B1 m1 d1, .slice B2 m2 d2] 52))) := ⟨below_alloc (Below.refl _ _) _⟩
  generalize w.alloc (.cells #[.slice B1 m1 d1, .slice B2 m2 d2] 52) = wb at *
  obtain ⟨ce0, ce1⟩ := two_cell GB.out
  go_cut [7, 8] (fun v7 v8 wc => v7 = .slice B1 m1 d1 ∧ v8 = .slice B2 m2 d2 ∧ Below w.heap.size w wc)
  case first =>
    go_quiet (fail)
    go_wp2_with fail
    go_meet
    case rel => exact ⟨rfl, rfl, by first | exact HB.out | exact pw_below_drewN HB.out _⟩
  case rest =>
    clear ce0 ce1 HB
    obtain ⟨rfl, rfl, hb⟩ := hcut
    have HB := Aside0.mk hb
    clear hb
    have T1_ := Aside0.mk (Rn.below RW.out HB.out); clear RW; have RW := T1_; clear T1_
    have T1_ := Aside0.mk (Rn.below R1.out HB.out); clear R1; have R1 := T1_; clear T1_
    have T1_ := Aside0.mk (Rn.below R2.out HB.out); clear R2; have R2 := T1_; clear T1_
    skip
    go_upto_region 14 with (first | (go_at_call 16; (with_reducible refine (new_ok _ RW.out LN.out HI.out (by have := K0.out; omega) (by have := K1.out; omega)).mono ?_); rintro e wa ⟨g, rfl, hs, hb, hl⟩; have ST := Aside0.mk hs; have HL := Aside0.mk (Nat.le_trans HB.out.size hl); have T1_ := Aside0.mk (Rn.below RW.out hb); clear RW; have RW := T1_; clear T1_; have T1_ := Aside0.mk (Rn.below R1.out hb); clear R1; have R1 := T1_; clear T1_; have T1_ := Aside0.mk (Rn.below R2.out hb); clear R2; have R2 := T1_; clear T1_; have T1_ := Aside0.mk (below_step HB.out hb); clear HB; have HB := T1_; clear T1_; clear hb hs hl) | (go_at_call 17; (with_reducible refine (ask_good ST.out R1.out L1.out HD1.out).mono ?_); rintro e wa ⟨rfl, hs, hg⟩; clear ST; have ST := Aside0.mk hs; have T1_ := Aside0.mk (Rn.grown RW.out hg (fun hp ad e => by have := NW.out hp ad e; have := HL.out; omega)); clear RW; have RW := T1_; clear T1_; have T1_ := Aside0.mk (Rn.grown R1.out hg (fun hp ad e => by have := N1.out hp ad e; have := HL.out; omega)); clear R1; have R1 := T1_; clear T1_; have T1_ := Aside0.mk (Rn.grown R2.out hg (fun hp ad e => by have := N2.out hp ad e; have := HL.out; omega)); clear R2; have R2 := T1_; clear T1_; have T1_ := Aside0.mk (grant_below HB.out hg HL.out); clear HB; have HB := T1_; clear T1_ hs hg) | (go_at_call 20; (with_reducible refine (came_is ST.out).mono ?_); rintro e wa ⟨ARC, nRC, cRC, rfl, hr, hb⟩; have RC := Aside0.mk hr; have T1_ := Aside0.mk (ST.out.below hb); clear ST; have ST := T1_; clear T1_; have T1_ := Aside0.mk (Rn.below RW.out hb); clear RW; have RW := T1_; clear T1_; have T1_ := Aside0.mk (Rn.below R1.out hb); clear R1; have R1 := T1_; clear T1_; have T1_ := Aside0.mk (Rn.below R2.out hb); clear R2; have R2 := T1_; clear T1_; have T1_ := Aside0.mk (below_step HB.out hb); clear HB; have HB := T1_; clear T1_; clear hb hr) | (go_at_call 24; (with_reducible refine (ints_is true RC.out (by have := RC.out.len; have := R1.out.len; have := L1.out; omega) R1.out (decide_eq_true rfl)).mono ?_); rintro e wa ⟨rfl, hb⟩; have T1_ := Aside0.mk (ST.out.below hb); clear ST; have ST := T1_; clear T1_; have T1_ := Aside0.mk (Rn.below RW.out hb); clear RW; have RW := T1_; clear T1_; have T1_ := Aside0.mk (Rn.below R1.out hb); clear R1; have R1 := T1_; clear T1_; have T1_ := Aside0.mk (Rn.below R2.out hb); clear R2; have R2 := T1_; clear T1_; have T1_ := Aside0.mk (below_step HB.out hb); clear HB; have HB := T1_; clear T1_; clear hb) | (go_at_call 17; (with_reducible refine (ask_good ST.out R2.out L2.out HD3.out).mono ?_); rintro e wa ⟨rfl, hs, hg⟩; clear ST; have ST := Aside0.mk hs; have T1_ := Aside0.mk (Rn.grown RW.out hg (fun hp ad e => by have := NW.out hp ad e; have := HL.out; omega)); clear RW; have RW := T1_; clear T1_; have T1_ := Aside0.mk (Rn.grown R1.out hg (fun hp ad e => by have := N1.out hp ad e; have := HL.out; omega)); clear R1; have R1 := T1_; clear T1_; have T1_ := Aside0.mk (Rn.grown R2.out hg (fun hp ad e => by have := N2.out hp ad e; have := HL.out; omega)); clear R2; have R2 := T1_; clear T1_; have T1_ := Aside0.mk (grant_below HB.out hg HL.out); clear HB; have HB := T1_; clear T1_ hs hg))
    go_cut [110] (fun v wx => v = .bool false ∧ St wx g who (1 + k % n) came true ∧ Rn wx B1 m1 d1 came ∧ Below w.heap.size w wx)
    case first =>
      go_region_with (first | (go_at_call 24; (with_reducible refine (ints_is true (Rn.below RC.out (by first | exact Below.refl _ _ | exact below_drew (Below.refl _ _) | exact TB.out | exact below_drew TB.out)) (by have := RC.out.len; have := R1.out.len; have := L1.out; omega) (Rn.below R1.out (by first | exact Below.refl _ _ | exact below_drew (Below.refl _ _) | exact TB.out | exact below_drew TB.out)) (decide_eq_true rfl)).mono ?_); rintro e wz ⟨rfl, hb⟩; have TB := Aside0.mk (below_step (w := wa) (by first | exact Below.refl _ _ | exact below_drew (Below.refl _ _) | exact TB.out | exact below_drew TB.out) hb); clear hb) | (go_at_call 24; (with_reducible refine (ints_is true (Rn.below R2.out (by first | exact Below.refl _ _ | exact below_drew (Below.refl _ _) | exact TB.out | exact below_drew TB.out)) L2.out (Rn.below R1.out (by first | exact Below.refl _ _ | exact below_drew (Below.refl _ _) | exact TB.out | exact below_drew TB.out)) (decide_eq_true rfl)).mono ?_); rintro e wz ⟨rfl, hb⟩; have TB := Aside0.mk (below_step (w := wa) (by first | exact Below.refl _ _ | exact below_drew (Below.refl _ _) | exact TB.out | exact below_drew TB.out) hb); clear hb))
      all_goals go_wp2_with fail
      all_goals go_meet
      all_goals (case rel => exact ⟨rfl, ST.out.below (by first | exact Below.refl _ _ | exact below_drew (Below.refl _ _) | exact TB.out | exact below_drew TB.out), R1.out.below (by first | exact Below.refl _ _ | exact below_drew (Below.refl _ _) | exact TB.out | exact below_drew TB.out), below_step HB.out (by first | exact Below.refl _ _ | exact below_drew (Below.refl _ _) | exact TB.out | exact below_drew TB.out)⟩)
    case rest =>
      obtain ⟨rfl, hs, hr, hb⟩ := hcut
      clear ST R1 HB
      have ST := Aside0.mk hs
      have R1 := Aside0.mk hr
      have HB := Aside0.mk hb
      clear hs hr hb RW R2 RC
      go_wp2_with (first | (go_at_call 17; (with_reducible refine (ask_good ST.out R1.out L1.out HD3.out).mono ?_); rintro e wa ⟨rfl, hs, hg⟩; clear ST; have ST := Aside0.mk hs; have T1_ := Aside0.mk (Rn.grown R1.out hg (fun hp ad e => by have := N1.out hp ad e; have := HL.out; omega)); clear R1; have R1 := T1_; clear T1_; have T1_ := Aside0.mk (grant_below HB.out hg HL.out); clear HB; have HB := T1_; clear T1_ hs hg) | (go_at_call 15; (with_reducible refine (sure26 _ (As.LaidG.below HG.out HB.out)).mono ?_); rintro e ws ⟨rfl, hb⟩; have T1_ := Aside0.mk (below_step HB.out hb); clear HB; have HB := T1_; clear T1_ hb))
      go_ret
      exact ⟨rfl, HB.out⟩
end Go.Proofs.YtfomajippdcaoaaDoor.Gu
