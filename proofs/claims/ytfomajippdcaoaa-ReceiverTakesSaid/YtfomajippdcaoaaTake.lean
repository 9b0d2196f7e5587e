/-
  The receiver's own functions, walked: what Take, Epoch, Last and New answer, and what becomes of the receiver.
-/
import Derived.Test.YtfomajippdcaoaaProg
import Derived.WalkKit
import Derived.KernelRfl
import Derived.LaidEql
import Derived.Deep.Draws
import Derived.Deep.QuietTactic
import Derived.BigQuiet
import Derived.Below
import Derived.Lib.Hide
import Derived.Test.YtfomajippdcaoaaWWords
namespace Go.Proofs.Ytfomajippdcaoaa.Rc
open Go.RowKit Go.Proofs.YtfomajippdcaoaaW.PrintWords

def okN (a b : Int) : Bool := decide (1 ≤ a ∧ a ≤ 1073741824 ∧ 1 ≤ b ∧ b ≤ 1073741824)

theorem wrong_ok (a b : Int) (w : World) (h1 : 1 ≤ a) (h2 : a ≤ 1073741824) (h3 : 1 ≤ b) (h4 : b ≤ 1073741824) :
    Calls Try.prog 11 #[.int .i64 a, .int .i64 b] w fun e w' => e = .returned .nilIface ∧ w = w' := by
  go_enter Try.func11, Try.ntmps11
  go_wp2
  go_ret
  exact ⟨rfl, rfl⟩

theorem wrong_no (a b : Int) (w : World) (h : a < 1 ∨ 1073741824 < a ∨ b < 1 ∨ 1073741824 < b) :
    Calls Try.prog 11 #[.int .i64 a, .int .i64 b] w fun e w' => e = .returned (.iface 43 (.int .i64 2)) ∧ w = w' := by
  by_cases h1 : a < 1
  · clear h
    go_enter Try.func11, Try.ntmps11
    go_wp2
    go_ret
    exact ⟨rfl, rfl⟩
  · by_cases h2 : 1073741824 < a
    · clear h
      go_enter Try.func11, Try.ntmps11
      go_wp2
      go_ret
      exact ⟨rfl, rfl⟩
    · by_cases h3 : b < 1
      · clear h
        go_enter Try.func11, Try.ntmps11
        go_wp2
        go_ret
        exact ⟨rfl, rfl⟩
      · have h4 : 1073741824 < b := by omega
        clear h
        go_enter Try.func11, Try.ntmps11
        go_wp2
        go_ret
        exact ⟨rfl, rfl⟩

/-- a receiver in memory -/
def RB (e s : Int) : Obj := .cells #[.int .i64 e, .int .i64 s] 42 (0, 0)

theorem take_nil (a b : Int) (w : World) :
    Calls Try.prog 5 #[.pointer none, .int .i64 a, .int .i64 b] w fun x w' => x = .returned (.tuple #[.bool false, .int .i64 (-1)]) ∧ w = w' := by
  go_enter Try.func5, Try.ntmps5
  go_wp2
  go_ret2
  exact ⟨rfl, rfl⟩
theorem epoch_nil (w : World) : Calls Try.prog 6 #[.pointer none] w fun x w' => x = .returned (.int .i64 0) ∧ w = w' := by
  go_enter Try.func6, Try.ntmps6
  go_wp2
  go_ret
  exact ⟨rfl, rfl⟩
theorem last_nil (w : World) : Calls Try.prog 7 #[.pointer none] w fun x w' => x = .returned (.int .i64 0) ∧ w = w' := by
  go_enter Try.func7, Try.ntmps7
  go_wp2
  go_ret
  exact ⟨rfl, rfl⟩
theorem epoch_is (g : Nat) (e : Int) (w : World) (h0 : w.cell? ⟨g, 0, none⟩ = some (.int .i64 e)) : Calls Try.prog 6 #[.pointer (some ⟨g, 0, none⟩)] w fun x w' => x = .returned (.int .i64 e) ∧ w = w' := by
  go_enter Try.func6, Try.ntmps6
  go_wp2
  go_ret
  exact ⟨rfl, rfl⟩
theorem last_is (g : Nat) (s : Int) (w : World) (h0 : w.cell? ⟨g, 1, none⟩ = some (.int .i64 s)) : Calls Try.prog 7 #[.pointer (some ⟨g, 0, none⟩)] w fun x w' => x = .returned (.int .i64 s) ∧ w = w' := by
  go_enter Try.func7, Try.ntmps7
  go_wp2
  go_ret
  exact ⟨rfl, rfl⟩
theorem new_is (w : World) : Calls Try.prog 8 #[] w fun x w' => x = .returned (.pointer (some ⟨w.heap.size, 0, none⟩)) ∧ w' = w.alloc (RB 0 0) := by
  go_enter Try.func8, Try.ntmps8
  go_wp2
  go_ret
  exact ⟨rfl, rfl⟩

theorem take_wrong (g : Nat) (a b : Int) (w : World) (h : a < 1 ∨ 1073741824 < a ∨ b < 1 ∨ 1073741824 < b) :
    Calls Try.prog 5 #[.pointer (some ⟨g, 0, none⟩), .int .i64 a, .int .i64 b] w fun x w' => x = .returned (.tuple #[.bool false, .int .i64 (-1)]) ∧ w = w' := by
  go_enter Try.func5, Try.ntmps5
  go_wp2_with (go_at_call 11; refine (wrong_no _ _ _ h).mono ?_; rintro x w' ⟨rfl, rfl⟩)
  go_ret2
  exact ⟨rfl, rfl⟩

theorem take_old (g : Nat) (e a b : Int) (w : World) (h1 : 1 ≤ a) (h2 : a ≤ 1073741824) (h3 : 1 ≤ b) (h4 : b ≤ 1073741824)
    (c0 : w.cell? ⟨g, 0, none⟩ = some (.int .i64 e)) (h5 : a < e) :
    Calls Try.prog 5 #[.pointer (some ⟨g, 0, none⟩), .int .i64 a, .int .i64 b] w fun x w' => x = .returned (.tuple #[.bool false, .int .i64 (-1)]) ∧ w = w' := by
  go_enter Try.func5, Try.ntmps5
  go_wp2_with (go_at_call 11; refine (wrong_ok _ _ _ h1 h2 h3 h4).mono ?_; rintro x w' ⟨rfl, rfl⟩)
  go_ret2
  exact ⟨rfl, rfl⟩

theorem take_next (g : Nat) (e s b : Int) (w : World) (h1 : 1 ≤ e) (h2 : e ≤ 1073741824) (h3 : 1 ≤ b) (h4 : b ≤ 1073741824)
    (c0 : w.cell? ⟨g, 0, none⟩ = some (.int .i64 e)) (c1 : w.cell? ⟨g, 1, none⟩ = some (.int .i64 s)) (f1 : w.frozen? ⟨g, 1, none⟩ = false) (h5 : b = s + 1) :
    Calls Try.prog 5 #[.pointer (some ⟨g, 0, none⟩), .int .i64 e, .int .i64 b] w fun x w' => x = .returned (.tuple #[.bool true, .int .i64 b]) ∧ w' = w.setCell ⟨g, 1, none⟩ (.int .i64 b) := by
  have H5 := Lib.hid h5
  have h6 : b ≤ s + 1 := by omega
  have h7 : s + 1 ≤ b := by omega
  clear h5
  go_enter Try.func5, Try.ntmps5
  go_wp2_with (go_at_call 11; refine (wrong_ok _ _ _ h1 h2 h3 h4).mono ?_; rintro x w' ⟨rfl, rfl⟩)
  go_ret2
  exact ⟨rfl, rfl⟩

theorem take_stay (g : Nat) (e s b : Int) (w : World) (h1 : 1 ≤ e) (h2 : e ≤ 1073741824) (h3 : 1 ≤ b) (h4 : b ≤ 1073741824) (hs : 0 ≤ s) (hs2 : s ≤ 1073741824)
    (c0 : w.cell? ⟨g, 0, none⟩ = some (.int .i64 e)) (c1 : w.cell? ⟨g, 1, none⟩ = some (.int .i64 s)) (h5 : b ≠ s + 1) :
    Calls Try.prog 5 #[.pointer (some ⟨g, 0, none⟩), .int .i64 e, .int .i64 b] w fun x w' => x = .returned (.tuple #[.bool false, .int .i64 s]) ∧ ∃ m, w' = w.drewN m := by
  have h6 : (b != s + 1) = true := by simpa using h5
  clear h5
  go_enter Try.func5, Try.ntmps5
  go_wp2_with (go_at_call 11; refine (wrong_ok _ _ _ h1 h2 h3 h4).mono ?_; rintro x w' ⟨rfl, rfl⟩)
  go_quiet (fail)
  go_wp2
  go_ret2
  exact ⟨rfl, _, rfl⟩

theorem take_new0 (g : Nat) (e s a b : Int) (w : World) (h1 : 1 ≤ a) (h2 : a ≤ 1073741824) (h3 : 1 ≤ b) (h4 : b ≤ 1073741824)
    (c0 : w.cell? ⟨g, 0, none⟩ = some (.int .i64 e)) (c1 : w.cell? ⟨g, 1, none⟩ = some (.int .i64 s)) (f0 : w.frozen? ⟨g, 0, none⟩ = false) (f1 : w.frozen? ⟨g, 1, none⟩ = false) (h5 : e < a) (h6 : b ≠ 1) :
    Calls Try.prog 5 #[.pointer (some ⟨g, 0, none⟩), .int .i64 a, .int .i64 b] w fun x w' => x = .returned (.tuple #[.bool false, .int .i64 0]) ∧ ∃ m, w' = ((w.setCell ⟨g, 0, none⟩ (.int .i64 a)).setCell ⟨g, 1, none⟩ (.int .i64 0)).drewN m := by
  have h7 : (b != 1) = true := by simpa using h6
  clear h6
  have k0 : ((w.setCell ⟨g, 0, none⟩ (.int .i64 a)).setCell ⟨g, 1, none⟩ (.int .i64 0)).cell? ⟨g, 1, none⟩ = some (.int .i64 0) := by
    refine World.cell?_setCell_same _ _ _ (u := .int .i64 s) ?_
    rw [World.cell?_setCell_other _ _ _ _ (by simp)]
    exact c1
  go_enter Try.func5, Try.ntmps5
  go_wp2_with (go_at_call 11; refine (wrong_ok _ _ _ h1 h2 h3 h4).mono ?_; rintro x w' ⟨rfl, rfl⟩)
  go_quiet (fail)
  go_wp2
  go_ret2
  exact ⟨rfl, _, rfl⟩

theorem take_new1 (g : Nat) (e s a b : Int) (w : World) (h1 : 1 ≤ a) (h2 : a ≤ 1073741824) (h3 : 1 ≤ b) (h4 : b ≤ 1)
    (c0 : w.cell? ⟨g, 0, none⟩ = some (.int .i64 e)) (c1 : w.cell? ⟨g, 1, none⟩ = some (.int .i64 s)) (f0 : w.frozen? ⟨g, 0, none⟩ = false) (f1 : w.frozen? ⟨g, 1, none⟩ = false) (h5 : e < a) :
    Calls Try.prog 5 #[.pointer (some ⟨g, 0, none⟩), .int .i64 a, .int .i64 b] w fun x w' => x = .returned (.tuple #[.bool true, .int .i64 b]) ∧ w' = ((w.setCell ⟨g, 0, none⟩ (.int .i64 a)).setCell ⟨g, 1, none⟩ (.int .i64 0)).setCell ⟨g, 1, none⟩ (.int .i64 b) := by
  have k0 : ((w.setCell ⟨g, 0, none⟩ (.int .i64 a)).setCell ⟨g, 1, none⟩ (.int .i64 0)).cell? ⟨g, 1, none⟩ = some (.int .i64 0) := by
    refine World.cell?_setCell_same _ _ _ (u := .int .i64 s) ?_
    rw [World.cell?_setCell_other _ _ _ _ (by simp)]
    exact c1
  go_enter Try.func5, Try.ntmps5
  go_wp2_with (go_at_call 11; refine (wrong_ok _ _ _ h1 h2 h3 (by omega)).mono ?_; rintro x w' ⟨rfl, rfl⟩)
  go_ret2
  exact ⟨rfl, rfl⟩

/-- one body: the receiver behind it, whether it is taken, and what is told -/
def tk (e s a b : Int) : Int × Int × Bool × Int :=
  if a < 1 ∨ 1073741824 < a ∨ b < 1 ∨ 1073741824 < b ∨ a < e then (e, s, false, -1)
  else if b = (if e < a then 0 else s) + 1 then (a, b, true, b) else (a, if e < a then 0 else s, false, if e < a then 0 else s)

theorem rb_cell {w : World} {g : Nat} {e s : Int} (h : w.heap[g]? = some (RB e s)) : w.cell? ⟨g, 0, none⟩ = some (.int .i64 e) ∧ w.cell? ⟨g, 1, none⟩ = some (.int .i64 s) ∧ w.frozen? ⟨g, 0, none⟩ = false ∧ w.frozen? ⟨g, 1, none⟩ = false := by
  unfold RB at h
  simp [World.cell?, World.frozen?, h]

/-- what a call leaves: the receiver's block, and all else as it was -/
def Left2 (g : Nat) (w w' : World) (e s : Int) : Prop := w'.heap[g]? = some (RB e s) ∧ (∀ B, B ≤ g → Below B w w') ∧ KeepBut w w' g none

theorem left_refl {g : Nat} {w : World} {e s : Int} (h : w.heap[g]? = some (RB e s)) : Left2 g w w e s := ⟨h, fun B _ => Below.refl B w, KeepBut.refl w g none⟩
theorem left_drew {g : Nat} {w w' : World} {e s : Int} (h : Left2 g w w' e s) (m : Nat) : Left2 g w (w'.drewN m) e s := ⟨h.1, fun B hB => pw_below_drewN (h.2.1 B hB) m, keep_drewN h.2.2 m⟩
theorem left_set0 {g : Nat} {w w' : World} {e s : Int} (h : Left2 g w w' e s) (x : Int) : Left2 g w (w'.setCell ⟨g, 0, none⟩ (.int .i64 x)) x s :=
  ⟨blk_set h.1 0 (.int .i64 x), fun B hB => (h.2.1 B hB).setCell (p := ⟨g, 0, none⟩) hB _, h.2.2.set_ 0 _⟩
theorem left_set1 {g : Nat} {w w' : World} {e s : Int} (h : Left2 g w w' e s) (x : Int) : Left2 g w (w'.setCell ⟨g, 1, none⟩ (.int .i64 x)) e x :=
  ⟨blk_set h.1 1 (.int .i64 x), fun B hB => (h.2.1 B hB).setCell (p := ⟨g, 1, none⟩) hB _, h.2.2.set_ 1 _⟩

theorem take_any (g : Nat) (e s a b : Int) (w : World) (hb : w.heap[g]? = some (RB e s)) (he : 0 ≤ e) (hs : 0 ≤ s) (hs2 : s ≤ 1073741824) :
    Calls Try.prog 5 #[.pointer (some ⟨g, 0, none⟩), .int .i64 a, .int .i64 b] w fun x w' => x = .returned (.tuple #[.bool (tk e s a b).2.2.1, .int .i64 (tk e s a b).2.2.2]) ∧ Left2 g w w' (tk e s a b).1 (tk e s a b).2.1 := by
  obtain ⟨c0, c1, f0, f1⟩ := rb_cell hb
  by_cases h1 : a < 1 ∨ 1073741824 < a ∨ b < 1 ∨ 1073741824 < b
  · have ht : tk e s a b = (e, s, false, -1) := by unfold tk; rw [if_pos (by omega)]
    rw [ht]
    refine (take_wrong g a b w h1).mono ?_
    rintro x w' ⟨rfl, rfl⟩
    exact ⟨rfl, left_refl hb⟩
  · by_cases h2 : a < e
    · have ht : tk e s a b = (e, s, false, -1) := by unfold tk; rw [if_pos (by omega)]
      rw [ht]
      refine (take_old g e a b w (by omega) (by omega) (by omega) (by omega) c0 h2).mono ?_
      rintro x w' ⟨rfl, rfl⟩
      exact ⟨rfl, left_refl hb⟩
    · by_cases h3 : e < a
      · by_cases h4 : b = 1
        · have ht : tk e s a b = (a, b, true, b) := by unfold tk; rw [if_neg (by omega), if_pos h3, if_pos (by omega)]
          rw [ht]
          refine (take_new1 g e s a b w (by omega) (by omega) (by omega) (by omega) c0 c1 f0 f1 h3).mono ?_
          rintro x w' ⟨rfl, rfl⟩
          exact ⟨rfl, left_set1 (left_set1 (left_set0 (left_refl hb) a) 0) b⟩
        · have ht : tk e s a b = (a, 0, false, 0) := by unfold tk; rw [if_neg (by omega), if_pos h3, if_neg (by omega)]
          rw [ht]
          refine (take_new0 g e s a b w (by omega) (by omega) (by omega) (by omega) c0 c1 f0 f1 h3 h4).mono ?_
          rintro x w' ⟨rfl, m, rfl⟩
          exact ⟨rfl, left_drew (left_set1 (left_set0 (left_refl hb) a) 0) m⟩
      · have h5 : a = e := by omega
        subst h5
        by_cases h4 : b = s + 1
        · have ht : tk a s a b = (a, b, true, b) := by unfold tk; rw [if_neg (by omega), if_neg h3, if_pos h4]
          rw [ht]
          refine (take_next g a s b w (by omega) (by omega) (by omega) (by omega) c0 c1 f1 h4).mono ?_
          rintro x w' ⟨rfl, rfl⟩
          exact ⟨rfl, left_set1 (left_refl hb) b⟩
        · have ht : tk a s a b = (a, s, false, s) := by unfold tk; rw [if_neg (by omega), if_neg h3, if_neg h4]
          rw [ht]
          refine (take_stay g a s b w (by omega) (by omega) (by omega) (by omega) hs hs2 c0 c1 h4).mono ?_
          rintro x w' ⟨rfl, m, rfl⟩
          exact ⟨rfl, left_drew (left_refl hb) m⟩

end Go.Proofs.Ytfomajippdcaoaa.Rc
