/-
  The document's tally (caucusref23), walked.
-/
import Derived.Test.YtfomajippdcaoaaDoorQPlain
namespace Go.Proofs.YtfomajippdcaoaaDoor.Qu
open Go.RowKit Go.Proofs.YtfomajippdcaoaaDoorW.PrintWords Go.Proofs.YtfomajippdcaoaaDoorW.PrintLast Go.Proofs.YtfomajippdcaoaaDoorW.PrintMore Go.Proofs.YtfomajippdcaoaaDoor.PSet Go.Proofs.YtfomajippdcaoaaDoor.Sc

/-- the document's tally as a value, and as a block -/
def QX (A B C : Option Addr) (n c m d p q : Nat) (need left : Int) : Array Value := #[.slice A n c, .int .i64 need, .int .i64 left, .slice B m d, .slice C p q]
theorem qx_cells {w : World} {o : Nat} {A B C : Option Addr} {n c m d p q : Nat} {need left : Int} (h : w.heap[o]? = some (.cells (QX A B C n c m d p q need left) 63 (0, 0))) :
    w.cell? ⟨o, 0, none⟩ = some (.slice A n c) ∧ w.cell? ⟨o, 1, none⟩ = some (.int .i64 need) ∧ w.cell? ⟨o, 2, none⟩ = some (.int .i64 left) ∧ w.cell? ⟨o, 3, none⟩ = some (.slice B m d) ∧ w.cell? ⟨o, 4, none⟩ = some (.slice C p q) ∧ (∀ j, w.frozen? ⟨o, j, none⟩ = false) := by
  unfold QX at h
  simp [World.cell?, World.frozen?, h]

section
variable {w : World} {A B C : Option Addr} {n c m d p q : Nat} {who inn gone : List Int} {need left : Int}
set_option maxRecDepth 100000 in
set_option maxHeartbeats 1000000 in
theorem rstate0 (v : Int) (hn : n ≤ 1000) (hp : p ≤ 1000) (hv : stq n m p need left = v) : Calls Tryd.prog 38 #[.agg #[.slice A n c, .int .i64 need, .int .i64 left, .slice B m d, .slice C p q]] w (Sc.Told (.int .i64 v) w) := by
  obtain ⟨can, hcan⟩ : ∃ can : Int, (n : Int) - p = can := ⟨_, rfl⟩
  have hw : wrap64 ((n : Int) - p) = can := by rw [← hcan]; exact wrap64_in' _ (by omega) (by omega)
  unfold stq at hv
  rw [hcan] at hv
  have HC := Aside0.mk hcan
  clear hcan hn hp
  have HB : Aside0 (Below w.heap.size w (w.alloc (.cells #[.slice A n c, .int .i64 need, .int .i64 left, .slice B m d, .slice C p q] 63))) := ⟨below_alloc (Below.refl _ _) _⟩
  by_cases he : (m : Int) = can
  · rw [if_pos (Or.inl he)] at hv
    have g1 : ((m : Int) == can) = true := by simpa using he
    have g2 : decide ((m : Int) = can) = true := decide_eq_true he
    by_cases hg : need ≤ (m : Int)
    · rw [if_pos hg] at hv
      first | (have g3 := decide_eq_false hg) | (have g3 := decide_eq_true hg)
      subst hv
      clear hg he
      go_enter Tryd.func38, Tryd.ntmps38
      go_wp2_with fail
      go_ret
      exact ⟨rfl, HB.out⟩
    · rw [if_neg hg] at hv
      first | (have g3 := decide_eq_false hg) | (have g3 := decide_eq_true hg)
      subst hv
      clear hg he
      go_enter Tryd.func38, Tryd.ntmps38
      go_wp2_with fail
      go_ret
      exact ⟨rfl, HB.out⟩
  · have g1 : ((m : Int) == can) = false := by simpa using he
    have g2 : decide ((m : Int) = can) = false := decide_eq_false he
    by_cases hl : left = 0
    · rw [if_pos (Or.inr hl)] at hv
      subst hl
      by_cases hg : need ≤ (m : Int)
      · rw [if_pos hg] at hv
        first | (have g3 := decide_eq_false hg) | (have g3 := decide_eq_true hg)
        subst hv
        clear hg he
        go_enter Tryd.func38, Tryd.ntmps38
        go_wp2_with fail
        go_ret
        exact ⟨rfl, HB.out⟩
      · rw [if_neg hg] at hv
        first | (have g3 := decide_eq_false hg) | (have g3 := decide_eq_true hg)
        subst hv
        clear hg he
        go_enter Tryd.func38, Tryd.ntmps38
        go_wp2_with fail
        go_ret
        exact ⟨rfl, HB.out⟩
    · rw [if_neg (fun h => h.elim he hl)] at hv
      have z1 : (left == 0) = false := by simpa using hl
      have z2 : decide (left = 0) = false := decide_eq_false hl
      by_cases hg : can < need
      · rw [if_pos hg] at hv
        first | (have g3 := decide_eq_false hg) | (have g3 := decide_eq_true hg)
        subst hv
        clear hg he
        go_enter Tryd.func38, Tryd.ntmps38
        go_wp2_with fail
        go_ret
        exact ⟨rfl, HB.out⟩
      · rw [if_neg hg] at hv
        first | (have g3 := decide_eq_false hg) | (have g3 := decide_eq_true hg)
        subst hv
        clear hg he
        go_enter Tryd.func38, Tryd.ntmps38
        go_wp2_with fail
        go_ret
        exact ⟨rfl, HB.out⟩
theorem rstate_is (v : Int) (ha : Rn w A n c who) (hb : Rn w B m d inn) (hc : Rn w C p q gone) (hn : n ≤ 1000) (hp : p ≤ 1000) (hv : st who inn gone need left = v) : Calls Tryd.prog 38 #[.agg #[.slice A n c, .int .i64 need, .int .i64 left, .slice B m d, .slice C p q]] w (Sc.Told (.int .i64 v) w) :=
  rstate0 v hn hp (by rw [← hv, st, ha.len, hb.len, hc.len])
end

/-! ### boxes: the argument's, the result's -/
structure Bx (w0 w : World) (X Y : Array Value) : Prop where
  box : w.heap[w0.heap.size]? = some (.cells X 63 (0, 0))
  res : w.heap[w0.heap.size + 1]? = some (.cells Y 63 (0, 0))
  bel : Below w0.heap.size w0 w
theorem Bx.below {w0 w w1 : World} {X Y : Array Value} (h : Bx w0 w X Y) (hb : Below w.heap.size w w1) : Bx w0 w1 X Y := ⟨blk_below h.box hb, blk_below h.res hb, below_step h.bel hb⟩
theorem Bx.new (w : World) (X Y : Array Value) : Bx w ((w.alloc (.cells X 63)).alloc (.cells Y 63)) X Y := by
  refine ⟨?_, ?_, below_alloc (below_alloc (Below.refl _ _) _) _⟩
  · show ((w.heap.push (.cells X 63 (0, 0))).push _)[w.heap.size]? = _
    rw [Array.getElem?_push, if_neg (by simp), Array.getElem?_push, if_pos (by simp)]
  · show ((w.heap.push (.cells X 63 (0, 0))).push (.cells Y 63 (0, 0)))[w.heap.size + 1]? = _
    rw [Array.getElem?_push, if_pos (by simp)]
theorem Bx.store {w0 w : World} {X : Array Value} {y0 y1 y2 y3 y4 : Value} (h : Bx w0 w X #[y0, y1, y2, y3, y4]) (x0 x1 x2 x3 x4 : Value) :
    Bx w0 (((((w.setCell ⟨w0.heap.size + 1, 0, none⟩ x0).setCell ⟨w0.heap.size + 1, 1, none⟩ x1).setCell ⟨w0.heap.size + 1, 2, none⟩ x2).setCell ⟨w0.heap.size + 1, 3, none⟩ x3).setCell ⟨w0.heap.size + 1, 4, none⟩ x4) X #[x0, x1, x2, x3, x4] := by
  have hs : ∀ (W : World) (j : Nat) (v : Value), (W.setCell ⟨w0.heap.size + 1, j, none⟩ v).heap[w0.heap.size]? = W.heap[w0.heap.size]? := fun W j v => Below.heap_setCell W _ _ _ (by show w0.heap.size ≠ w0.heap.size + 1; omega)
  refine ⟨(hs _ _ _).trans ((hs _ _ _).trans ((hs _ _ _).trans ((hs _ _ _).trans ((hs _ _ _).trans h.box)))), blk_set (blk_set (blk_set (blk_set (blk_set h.res 0 x0) 1 x1) 2 x2) 3 x3) 4 x4, ?_⟩
  have hb : ∀ {W : World} (j : Nat) (v : Value), Below w0.heap.size w0 W → Below w0.heap.size w0 (W.setCell ⟨w0.heap.size + 1, j, none⟩ v) := fun j v h => h.setCell (p := ⟨w0.heap.size + 1, j, none⟩) (by show w0.heap.size ≤ w0.heap.size + 1; omega) _
  exact hb _ _ (hb _ _ (hb _ _ (hb _ _ (hb _ _ h.bel))))
theorem Bx.put {w0 w : World} {x0 x1 x2 x3 x4 : Value} {Y : Array Value} (h : Bx w0 w #[x0, x1, x2, x3, x4] Y) (j : Nat) (v : Value) :
    Bx w0 (w.setCell ⟨w0.heap.size, j, none⟩ v) ((#[x0, x1, x2, x3, x4] : Array Value).setIfInBounds j v) Y := by
  have hs : ∀ (W : World) (j : Nat) (v : Value), (W.setCell ⟨w0.heap.size, j, none⟩ v).heap[w0.heap.size + 1]? = W.heap[w0.heap.size + 1]? := fun W j v => Below.heap_setCell W _ _ _ (by show w0.heap.size + 1 ≠ w0.heap.size; omega)
  exact ⟨blk_set h.box j v, (hs _ _ _).trans h.res, h.bel.setCell (p := ⟨w0.heap.size, j, none⟩) (Nat.le_refl _) _⟩
def Cs5 (w : World) (o : Nat) (x0 x1 x2 x3 x4 : Value) : Prop :=
  w.cell? ⟨o, 0, none⟩ = some x0 ∧ w.cell? ⟨o, 1, none⟩ = some x1 ∧ w.cell? ⟨o, 2, none⟩ = some x2 ∧ w.cell? ⟨o, 3, none⟩ = some x3 ∧ w.cell? ⟨o, 4, none⟩ = some x4 ∧
  w.frozen? ⟨o, 0, none⟩ = false ∧ w.frozen? ⟨o, 1, none⟩ = false ∧ w.frozen? ⟨o, 2, none⟩ = false ∧ w.frozen? ⟨o, 3, none⟩ = false ∧ w.frozen? ⟨o, 4, none⟩ = false
theorem cs5_of {w : World} {o ty : Nat} {x0 x1 x2 x3 x4 : Value} (h : w.heap[o]? = some (.cells #[x0, x1, x2, x3, x4] ty (0, 0))) : Cs5 w o x0 x1 x2 x3 x4 := by
  simp [Cs5, World.cell?, World.frozen?, h]
theorem rcame_res {tmps : Array Value} {w0 w : World} {X : Array Value} {code : Int} {A B C : Option Addr} {n c m d p q : Nat} {need left : Int} (h6 : tmps.getD 6 undef = .pointer (some ⟨w0.heap.size + 1, 0, none⟩)) (h7 : tmps.getD 7 undef = .int .i64 code) (h : Bx w0 w X #[.slice A n c, .int .i64 need, .int .i64 left, .slice B m d, .slice C p q]) :
    (results Tryd.f36 tmps).run Tryd.prog w = .ok (.tuple #[.agg #[.slice A n c, .int .i64 need, .int .i64 left, .slice B m d, .slice C p q], .int .i64 code]) w := by
  obtain ⟨e0, e1, e2, e3, e4, _⟩ := cs5_of h.res
  simp only [Array.getD_eq_getD_getElem?] at h6 h7
  simp [results, Tryd.results36, go_sem, h6, h7, e0, e1, e2, e3, e4]
theorem rtick_res {tmps : Array Value} {w0 w : World} {X : Array Value} {A B C : Option Addr} {n c m d p q : Nat} {need left : Int} (h2 : tmps.getD 2 undef = .pointer (some ⟨w0.heap.size + 1, 0, none⟩)) (h : Bx w0 w X #[.slice A n c, .int .i64 need, .int .i64 left, .slice B m d, .slice C p q]) :
    (results Tryd.f37 tmps).run Tryd.prog w = .ok (.agg #[.slice A n c, .int .i64 need, .int .i64 left, .slice B m d, .slice C p q]) w := by
  obtain ⟨e0, e1, e2, e3, e4, _⟩ := cs5_of h.res
  simp only [Array.getD_eq_getD_getElem?] at h2
  simp [results, Tryd.results37, go_sem, h2, e0, e1, e2, e3, e4]
end Go.Proofs.YtfomajippdcaoaaDoor.Qu
