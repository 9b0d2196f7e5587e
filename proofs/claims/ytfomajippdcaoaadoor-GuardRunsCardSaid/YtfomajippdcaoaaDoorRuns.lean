/-
  The law GuardRuns, walked.
-/
import Derived.Test.YtfomajippdcaoaaDoorGRef
import Derived.Test.YtfomajippdcaoaaDoorOne
namespace Go.Proofs.YtfomajippdcaoaaDoor.Gu
open Go.RowKit Go.Proofs.YtfomajippdcaoaaDoorW.PrintWords Go.Proofs.YtfomajippdcaoaaDoorW.PrintLast Go.Proofs.YtfomajippdcaoaaDoorW.PrintMore Go.Proofs.YtfomajippdcaoaaDoor.PSet Go.Proofs.YtfomajippdcaoaaDoor.Sc

set_option maxRecDepth 100000 in
theorem new_bad {A : Option Addr} {n c : Nat} {l : List Int} {w : World} (need : Int) (h : Rn w A n c l) (hn : n ≤ 1000) (hi : inc (-1) l = true) (hb : need < 1 ∨ (n : Int) < need) :
    Calls Tryd.prog 16 #[.slice A n c, .int .i64 need] w fun e w' => e = .returned (.tuple #[.pointer none, .iface 75 (.int .i64 1)]) ∧ Below w.heap.size w w' := by
  have H := Aside0.mk h
  have HN := Aside0.mk hn
  have HI := Aside0.mk hi
  clear h hn hi
  by_cases h1 : need < 1
  · clear hb
    go_enter Tryd.func16, Tryd.ntmps16
    go_wp2_with (go_at_call 42; (with_reducible refine (check_ok H.out HN.out HI.out).mono ?_); rintro e w1 ⟨rfl, hb⟩; have B1 := Aside0.mk hb; clear hb)
    go_ret2
    exact ⟨rfl, B1.out⟩
  · have h2 : (n : Int) < need := by omega
    clear hb
    go_enter Tryd.func16, Tryd.ntmps16
    go_wp2_with (go_at_call 42; (with_reducible refine (check_ok H.out HN.out HI.out).mono ?_); rintro e w1 ⟨rfl, hb⟩; have B1 := Aside0.mk hb; clear hb)
    go_ret2
    exact ⟨rfl, B1.out⟩
theorem num_is (c : Int) (w : World) (hG : As.LaidG w) : Calls Tryd.prog 21 #[errV c] w (Sc.Told (.int .i64 c) w) := by
  unfold errV
  by_cases h : c = 0
  · subst h
    rw [if_pos rfl]
    exact As.num21_nil w
  · rw [if_neg h]
    exact As.num21_some c w hG
/-- the document's Ask, its next guard spelt out -/
theorem rask_out (A B C : Option Addr) (n c m d p q : Nat) (need : Int) (is : Bool) (who came l : List Int) (w0 w : World) (hw : Below w0.heap.size w0 w) (ha : Rn w0 A n c who) (hb : Rn w0 B m d came) (hc : Rn w0 C p q l) (hn : n ≤ 1000) (hm : m ≤ 1000) (hp : p ≤ 1000) :
    ∃ B2 m2 d2, (Rn w0 B2 m2 d2 (nxC (askC who need came is l) l came) ∧ m2 ≤ 1000) ∧ ∀ W, Below w.heap.size w W → Calls Tryd.prog 23 #[.agg #[.slice A n c, .int .i64 need, .slice B m d, .bool is], .slice C p q] W fun e W' => e = .returned (.tuple #[.agg #[.slice A n c, .int .i64 need, .slice B2 m2 d2, .bool (nxI (askC who need came is l) is)], .int .i64 (askC who need came is l)]) ∧ Below w.heap.size w W' ∧ Below W.heap.size W W' := by
  have hW : ∀ W, Below w.heap.size w W → Below w0.heap.size w0 W := fun W h => below_step hw h
  by_cases h : askC who need came is l = 0
  · refine ⟨C, p, q, ⟨by rw [nxC, if_pos h]; exact hc, hp⟩, fun W hb1 => (rask_is A B C n c m d p q need is who came l W (ha.below (hW W hb1)) (hb.below (hW W hb1)) (hc.below (hW W hb1)) hn hm hp).mono ?_⟩
    rintro e W' ⟨rfl, h2⟩
    exact ⟨by rw [if_pos h, nxI, if_pos h]; rfl, below_step hb1 h2, h2⟩
  · refine ⟨B, m, d, ⟨by rw [nxC, if_neg h]; exact hb, hm⟩, fun W hb1 => (rask_is A B C n c m d p q need is who came l W (ha.below (hW W hb1)) (hb.below (hW W hb1)) (hc.below (hW W hb1)) hn hm hp).mono ?_⟩
    rintro e W' ⟨rfl, h2⟩
    exact ⟨by rw [if_neg h, nxI, if_neg h]; rfl, below_step hb1 h2, h2⟩

/-- the guard, and the document's in block o -/
structure Gd (w wr : World) (o g : Nat) (A B : Option Addr) (n c m d : Nat) (who : List Int) (need : Int) (came : List Int) (is : Bool) : Prop where
  so : StO wr o g who need came is
  xb : wr.heap[o]? = some (.cells #[.slice A n c, .int .i64 need, .slice B m d, .bool is] 46 (0, 0))
  bel : Below w.heap.size w wr
section
variable {w wr w1 : World} {o g : Nat} {A B : Option Addr} {n c m d : Nat} {who : List Int} {need : Int} {came : List Int} {is : Bool}
theorem Gd.below (h : Gd w wr o g A B n c m d who need came is) (hb : Below wr.heap.size wr w1) : Gd w w1 o g A B n c m d who need came is := ⟨h.so.below hb, blk_below h.xb hb, below_step h.bel hb⟩
theorem Gd.lt (h : Gd w wr o g A B n c m d who need came is) : o < wr.heap.size := blk_lt h.xb
theorem Gd.cells (h : Gd w wr o g A B n c m d who need came is) :
    wr.cell? ⟨o, 0, none⟩ = some (.slice A n c) ∧ wr.cell? ⟨o, 1, none⟩ = some (.int .i64 need) ∧ wr.cell? ⟨o, 2, none⟩ = some (.slice B m d) ∧ wr.cell? ⟨o, 3, none⟩ = some (.bool is) ∧ wr.frozen? ⟨o, 0, none⟩ = false ∧ wr.frozen? ⟨o, 1, none⟩ = false ∧ wr.frozen? ⟨o, 2, none⟩ = false ∧ wr.frozen? ⟨o, 3, none⟩ = false := by
  obtain ⟨d0, d1, d2, d3, d4⟩ := gx_cells (A := A) (B := B) (n := n) (c := c) (m := m) (d := d) (need := need) (is := is) h.xb
  exact ⟨d0, d1, d2, d3, d4 0, d4 1, d4 2, d4 3⟩
/-- Ask: the guard goes on, the document's stays -/
theorem Gd.asked {came1 : List Int} {is1 : Bool} (h : Gd w wr o g A B n c m d who need came is) (hs : StO w1 o g who need came1 is1) (hg : wr.grownBy w1 (some g)) (hne : o ≠ g) (hl : w.heap.size ≤ g) :
    StO w1 o g who need came1 is1 ∧ w1.heap[o]? = some (.cells #[.slice A n c, .int .i64 need, .slice B m d, .bool is] 46 (0, 0)) ∧ Below w.heap.size w w1 :=
  ⟨hs, (hg.block o h.lt (by intro e; exact hne (by injection e))).trans h.xb, grant_below h.bel hg hl⟩
theorem Gd.asked2 {B2 : Option Addr} {m2 d2 : Nat} {came1 : List Int} {is1 : Bool} (hx : wr.heap[o]? = some (.cells #[.slice A n c, .int .i64 need, .slice B2 m2 d2, .bool is1] 46 (0, 0))) (hb : Below w.heap.size w wr) (hs : StO w1 o g who need came1 is1) (hg : wr.grownBy w1 (some g)) (hne : o ≠ g) (hl : w.heap.size ≤ g) :
    Gd w w1 o g A B2 n c m2 d2 who need came1 is1 :=
  ⟨hs, (hg.block o (blk_lt hx) (by intro e; exact hne (by injection e))).trans hx, grant_below hb hg hl⟩
theorem Gd.put (h : Gd w wr o g A B n c m d who need came is) (hne : o ≠ g) (hl : w.heap.size ≤ o) (v0 v1 v2 v3 : Value) :
    StO ((((wr.setCell ⟨o, 0, none⟩ v0).setCell ⟨o, 1, none⟩ v1).setCell ⟨o, 2, none⟩ v2).setCell ⟨o, 3, none⟩ v3) o g who need came is ∧
    ((((wr.setCell ⟨o, 0, none⟩ v0).setCell ⟨o, 1, none⟩ v1).setCell ⟨o, 2, none⟩ v2).setCell ⟨o, 3, none⟩ v3).heap[o]? = some (.cells #[v0, v1, v2, v3] 46 (0, 0)) ∧
    Below w.heap.size w ((((wr.setCell ⟨o, 0, none⟩ v0).setCell ⟨o, 1, none⟩ v1).setCell ⟨o, 2, none⟩ v2).setCell ⟨o, 3, none⟩ v3) := by
  have hb : ∀ {W : World} (j : Nat) (v : Value), Below w.heap.size w W → Below w.heap.size w (W.setCell ⟨o, j, none⟩ v) := fun j v h => h.setCell (p := ⟨o, j, none⟩) hl _
  exact ⟨(((h.so.set hne 0 v0).set hne 1 v1).set hne 2 v2).set hne 3 v3, blk_set (blk_set (blk_set (blk_set h.xb 0 v0) 1 v1) 2 v2) 3 v3, hb _ _ (hb _ _ (hb _ _ (hb _ _ h.bel)))⟩
end
theorem rout_lit (A B : Option Addr) (n c m d : Nat) (need : Int) (is : Bool) (who came : List Int) (id v : Int) (w : World) (ha : Rn w A n c who) (hb : Rn w B m d came) (hn : n ≤ 1000) (hm : m ≤ 1000) (hv : outV who came is id = v) :
    Calls Tryd.prog 25 #[.agg #[.slice A n c, .int .i64 need, .slice B m d, .bool is], .int .i64 id] w (Sc.Told (.int .i64 v) w) := rout_is A B n c m d need is who came id v w ha hb hn hm hv


theorem kept46 {wr w' : World} (hb : Below (wr.alloc (.cells #[.slice none 0 0, .int .i64 0, .slice none 0 0, .bool false] 46)).drew.heap.size (wr.alloc (.cells #[.slice none 0 0, .int .i64 0, .slice none 0 0, .bool false] 46)).drew w') :
    w'.heap[wr.heap.size]? = some (.cells #[.slice none 0 0, .int .i64 0, .slice none 0 0, .bool false] 46 (0, 0)) := by
  refine (hb.block wr.heap.size (by show wr.heap.size < (wr.heap.push _).size; simp)).trans ?_
  show (wr.heap.push _)[wr.heap.size]? = _
  simp
theorem gx0_cells {w : World} {o : Nat} (h : w.heap[o]? = some (.cells #[.slice none 0 0, .int .i64 0, .slice none 0 0, .bool false] 46 (0, 0))) :
    w.cell? ⟨o, 0, none⟩ = some (.slice none 0 0) ∧ w.cell? ⟨o, 1, none⟩ = some (.int .i64 0) ∧ w.cell? ⟨o, 2, none⟩ = some (.slice none 0 0) ∧ w.cell? ⟨o, 3, none⟩ = some (.bool false) ∧ w.frozen? ⟨o, 0, none⟩ = false ∧ w.frozen? ⟨o, 1, none⟩ = false ∧ w.frozen? ⟨o, 2, none⟩ = false ∧ w.frozen? ⟨o, 3, none⟩ = false := by
  simp [World.cell?, World.frozen?, h]
theorem gx_put {w : World} {y : Nat} {x0 x1 x2 x3 : Value} (h : w.heap[y]? = some (.cells #[x0, x1, x2, x3] 46 (0, 0))) (v0 v1 v2 v3 : Value) :
    ((((w.setCell ⟨y, 0, none⟩ v0).setCell ⟨y, 1, none⟩ v1).setCell ⟨y, 2, none⟩ v2).setCell ⟨y, 3, none⟩ v3).heap[y]? = some (.cells #[v0, v1, v2, v3] 46 (0, 0)) :=
  blk_set (blk_set (blk_set (blk_set h 0 v0) 1 v1) 2 v2) 3 v3
theorem gx_far {wr w : World} (h : Below wr.heap.size wr w) (j : Nat) (v : Value) : Below wr.heap.size wr (w.setCell ⟨wr.heap.size, j, none⟩ v) := h.setCell (p := ⟨wr.heap.size, j, none⟩) (Nat.le_refl _) _

set_option maxRecDepth 100000 in
set_option maxHeartbeats 1000000 in
theorem runs_great (A B : Option Addr) (n c m d : Nat) (need : Int) (w : World) (hG : As.LaidG w) (hn : 100 < n) :
    Calls Tryd.prog 5 #[.slice A n c, .int .i64 need, .slice B m d] w (Sc.Told (.bool true) w) := by
  have HG := Aside0.mk hG
  have q1 : decide (100 < (n : Int)) = true := decide_eq_true (by omega)
  have q2 : decide (100 < n) = true := decide_eq_true (by omega)
  have HB := Aside0.mk (Below.refl w.heap.size w)
  clear hn
  go_enter Tryd.func5, Tryd.ntmps5
  go_wp2_with (first | (go_at_call 20; (with_reducible refine (came_nil _).mono ?_); rintro e wa ⟨rfl, hb⟩; have T1_ := Aside0.mk (below_step HB.out hb); clear HB; have HB := T1_; clear T1_ hb) | (go_at_call 17; (with_reducible refine (ask_nil _).mono ?_); rintro e wa ⟨rfl, hb⟩; have T1_ := Aside0.mk (below_step HB.out hb); clear HB; have HB := T1_; clear T1_ hb) | (go_at_call 21; (with_reducible refine (As.num21_some _ _ (As.LaidG.below HG.out HB.out)).mono ?_); rintro e wa ⟨rfl, hb⟩; have T1_ := Aside0.mk (below_step HB.out hb); clear HB; have HB := T1_; clear T1_ hb) | (go_at_call 18; (with_reducible refine (out_nil _).mono ?_); rintro e wa ⟨rfl, hb⟩; have T1_ := Aside0.mk (below_step HB.out hb); clear HB; have HB := T1_; clear T1_ hb) | (go_at_call 15; (with_reducible refine (sure26 _ (As.LaidG.below HG.out HB.out)).mono ?_); rintro e ws ⟨rfl, hb⟩; have T1_ := Aside0.mk (below_step HB.out hb); clear HB; have HB := T1_; clear T1_ hb))
  go_ret
  exact ⟨rfl, HB.out⟩
set_option maxRecDepth 100000 in
set_option maxHeartbeats 1000000 in
theorem runs_new (A B : Option Addr) (n c m d : Nat) (who : List Int) (need : Int) (w : World) (hG : As.LaidG w) (hn : ¬ 100 < n) (hw : Rn w A n c who) (hi : inc (-1) who = false) :
    Calls Tryd.prog 5 #[.slice A n c, .int .i64 need, .slice B m d] w (Sc.Told (.bool true) w) := by
  have HG := Aside0.mk hG
  have RW := Aside0.mk hw
  have LN : Aside0 (n ≤ 1000) := ⟨by omega⟩
  have HI := Aside0.mk hi
  have q1 : decide (100 < (n : Int)) = false := decide_eq_false (by omega)
  have q2 : decide (100 < n) = false := decide_eq_false (by omega)
  have HB := Aside0.mk (Below.refl w.heap.size w)
  clear hn hw hi
  go_enter Tryd.func5, Tryd.ntmps5
  go_wp2_with (first | (go_at_call 20; (with_reducible refine (came_nil _).mono ?_); rintro e wa ⟨rfl, hb⟩; have T1_ := Aside0.mk (below_step HB.out hb); clear HB; have HB := T1_; clear T1_ hb) | (go_at_call 17; (with_reducible refine (ask_nil _).mono ?_); rintro e wa ⟨rfl, hb⟩; have T1_ := Aside0.mk (below_step HB.out hb); clear HB; have HB := T1_; clear T1_ hb) | (go_at_call 21; (with_reducible refine (As.num21_some _ _ (As.LaidG.below HG.out HB.out)).mono ?_); rintro e wa ⟨rfl, hb⟩; have T1_ := Aside0.mk (below_step HB.out hb); clear HB; have HB := T1_; clear T1_ hb) | (go_at_call 18; (with_reducible refine (out_nil _).mono ?_); rintro e wa ⟨rfl, hb⟩; have T1_ := Aside0.mk (below_step HB.out hb); clear HB; have HB := T1_; clear T1_ hb) | (go_at_call 16; (with_reducible refine (Gu.new_no _ (RW.out.below HB.out) LN.out HI.out).mono ?_); rintro e wa ⟨rfl, hb⟩; have T1_ := Aside0.mk (below_step HB.out hb); clear HB; have HB := T1_; clear T1_ hb) | (go_at_call 22; (with_reducible refine (may_is false (RW.out.below HB.out) LN.out HI.out).mono ?_); rintro e wa ⟨rfl, hb⟩; have T1_ := Aside0.mk (below_step HB.out hb); clear HB; have HB := T1_; clear T1_ hb) | (go_at_call 15; (with_reducible refine (sure26 _ (As.LaidG.below HG.out HB.out)).mono ?_); rintro e ws ⟨rfl, hb⟩; have T1_ := Aside0.mk (below_step HB.out hb); clear HB; have HB := T1_; clear T1_ hb))
  go_ret
  exact ⟨rfl, HB.out⟩
set_option maxRecDepth 100000 in
set_option maxHeartbeats 1000000 in
theorem runs_need (A B : Option Addr) (n c m d : Nat) (who : List Int) (need : Int) (w : World) (hG : As.LaidG w) (hn : ¬ 100 < n) (hw : Rn w A n c who) (hi : inc (-1) who = true) (hd : need < 1 ∨ (n : Int) < need) :
    Calls Tryd.prog 5 #[.slice A n c, .int .i64 need, .slice B m d] w (Sc.Told (.bool true) w) := by
  have HG := Aside0.mk hG
  have RW := Aside0.mk hw
  have LN : Aside0 (n ≤ 1000) := ⟨by omega⟩
  have HI := Aside0.mk hi
  have HD := Aside0.mk hd
  have q1 : decide (100 < (n : Int)) = false := decide_eq_false (by omega)
  have q2 : decide (100 < n) = false := decide_eq_false (by omega)
  have HB := Aside0.mk (Below.refl w.heap.size w)
  clear hn hw hi
  by_cases h1 : need < 1
  · clear hd
    go_enter Tryd.func5, Tryd.ntmps5
    go_wp2_with (first | (go_at_call 20; (with_reducible refine (came_nil _).mono ?_); rintro e wa ⟨rfl, hb⟩; have T1_ := Aside0.mk (below_step HB.out hb); clear HB; have HB := T1_; clear T1_ hb) | (go_at_call 17; (with_reducible refine (ask_nil _).mono ?_); rintro e wa ⟨rfl, hb⟩; have T1_ := Aside0.mk (below_step HB.out hb); clear HB; have HB := T1_; clear T1_ hb) | (go_at_call 21; (with_reducible refine (As.num21_some _ _ (As.LaidG.below HG.out HB.out)).mono ?_); rintro e wa ⟨rfl, hb⟩; have T1_ := Aside0.mk (below_step HB.out hb); clear HB; have HB := T1_; clear T1_ hb) | (go_at_call 18; (with_reducible refine (out_nil _).mono ?_); rintro e wa ⟨rfl, hb⟩; have T1_ := Aside0.mk (below_step HB.out hb); clear HB; have HB := T1_; clear T1_ hb) | (go_at_call 16; (with_reducible refine (Gu.new_bad _ (RW.out.below HB.out) LN.out HI.out HD.out).mono ?_); rintro e wa ⟨rfl, hb⟩; have T1_ := Aside0.mk (below_step HB.out hb); clear HB; have HB := T1_; clear T1_ hb) | (go_at_call 22; (with_reducible refine (may_is true (RW.out.below HB.out) LN.out HI.out).mono ?_); rintro e wa ⟨rfl, hb⟩; have T1_ := Aside0.mk (below_step HB.out hb); clear HB; have HB := T1_; clear T1_ hb) | (go_at_call 15; (with_reducible refine (sure26 _ (As.LaidG.below HG.out HB.out)).mono ?_); rintro e ws ⟨rfl, hb⟩; have T1_ := Aside0.mk (below_step HB.out hb); clear HB; have HB := T1_; clear T1_ hb))
    go_ret
    exact ⟨rfl, HB.out⟩
  · have h2 : (n : Int) < need := by omega
    clear hd
    go_enter Tryd.func5, Tryd.ntmps5
    go_wp2_with (first | (go_at_call 20; (with_reducible refine (came_nil _).mono ?_); rintro e wa ⟨rfl, hb⟩; have T1_ := Aside0.mk (below_step HB.out hb); clear HB; have HB := T1_; clear T1_ hb) | (go_at_call 17; (with_reducible refine (ask_nil _).mono ?_); rintro e wa ⟨rfl, hb⟩; have T1_ := Aside0.mk (below_step HB.out hb); clear HB; have HB := T1_; clear T1_ hb) | (go_at_call 21; (with_reducible refine (As.num21_some _ _ (As.LaidG.below HG.out HB.out)).mono ?_); rintro e wa ⟨rfl, hb⟩; have T1_ := Aside0.mk (below_step HB.out hb); clear HB; have HB := T1_; clear T1_ hb) | (go_at_call 18; (with_reducible refine (out_nil _).mono ?_); rintro e wa ⟨rfl, hb⟩; have T1_ := Aside0.mk (below_step HB.out hb); clear HB; have HB := T1_; clear T1_ hb) | (go_at_call 16; (with_reducible refine (Gu.new_bad _ (RW.out.below HB.out) LN.out HI.out HD.out).mono ?_); rintro e wa ⟨rfl, hb⟩; have T1_ := Aside0.mk (below_step HB.out hb); clear HB; have HB := T1_; clear T1_ hb) | (go_at_call 22; (with_reducible refine (may_is true (RW.out.below HB.out) LN.out HI.out).mono ?_); rintro e wa ⟨rfl, hb⟩; have T1_ := Aside0.mk (below_step HB.out hb); clear HB; have HB := T1_; clear T1_ hb) | (go_at_call 15; (with_reducible refine (sure26 _ (As.LaidG.below HG.out HB.out)).mono ?_); rintro e ws ⟨rfl, hb⟩; have T1_ := Aside0.mk (below_step HB.out hb); clear HB; have HB := T1_; clear T1_ hb))
    go_ret
    exact ⟨rfl, HB.out⟩

set_option maxRecDepth 100000 in
set_option maxHeartbeats 1000000 in
theorem runs_go (A B : Option Addr) (n c m d : Nat) (who : List Int) (asks : List (List Int)) (need : Int) (w : World) (hG : As.LaidG w) (hn : ¬ 100 < n) (hd1 : 1 ≤ need) (hd2 : need ≤ n) (hw : Rn w A n c who) (hr : Kd.C (Kd.slice 3 (Kd.int .i64)) w B m asks) (hi : inc (-1) who = true) :
    Calls Tryd.prog 5 #[.slice A n c, .int .i64 need, .slice B m d] w (Sc.Told (.bool true) w) := by
  have HG := Aside0.mk hG
  have RW := Aside0.mk hw
  have RR := Aside0.mk hr
  have LN : Aside0 (n ≤ 1000) := ⟨by omega⟩
  have HI := Aside0.mk hi
  have HD1 := Aside0.mk hd1
  have HD2 := Aside0.mk hd2
  have q1 : decide (100 < (n : Int)) = false := decide_eq_false (by omega)
  have q2 : decide (100 < n) = false := decide_eq_false (by omega)
  have q3 : decide (need < 1) = false := decide_eq_false (by omega)
  have q4 : decide ((n : Int) < need) = false := decide_eq_false (by omega)
  have HB := Aside0.mk (Below.refl w.heap.size w)
  clear hn hw hi hr hd1 hd2
  go_enter Tryd.func5, Tryd.ntmps5
  go_wp2_with (first | (go_at_call 20; (with_reducible refine (came_nil _).mono ?_); rintro e wa ⟨rfl, hb⟩; have T1_ := Aside0.mk (below_step HB.out hb); clear HB; have HB := T1_; clear T1_ hb) | (go_at_call 17; (with_reducible refine (ask_nil _).mono ?_); rintro e wa ⟨rfl, hb⟩; have T1_ := Aside0.mk (below_step HB.out hb); clear HB; have HB := T1_; clear T1_ hb) | (go_at_call 21; (with_reducible refine (As.num21_some _ _ (As.LaidG.below HG.out HB.out)).mono ?_); rintro e wa ⟨rfl, hb⟩; have T1_ := Aside0.mk (below_step HB.out hb); clear HB; have HB := T1_; clear T1_ hb) | (go_at_call 18; (with_reducible refine (out_nil _).mono ?_); rintro e wa ⟨rfl, hb⟩; have T1_ := Aside0.mk (below_step HB.out hb); clear HB; have HB := T1_; clear T1_ hb) | (go_at_call 16; (with_reducible refine (Gu.new_ok _ (RW.out.below HB.out) LN.out HI.out HD1.out HD2.out).mono ?_); rintro e wa ⟨g, rfl, hs, hb, hl⟩; have ST := Aside0.mk hs; have HL := Aside0.mk (Nat.le_trans HB.out.size hl); clear hs hl; have T1_ := Aside0.mk (below_step HB.out hb); clear HB; have HB := T1_; clear T1_ hb) | (go_at_call 22; (with_reducible refine (may_is true (RW.out.below HB.out) LN.out HI.out).mono ?_); rintro e wa ⟨rfl, hb⟩; have T2_ := Aside0.mk (ST.out.below hb); clear ST; have ST := T2_; clear T2_; have T1_ := Aside0.mk (below_step HB.out hb); clear HB; have HB := T1_; clear T1_ hb))
  have OG : Aside0 (wa.heap.size ≠ g) := ⟨by
    obtain ⟨A1, B1, n1, c1, m1, d1, hs⟩ := ST.out
    have := blk_lt hs.blk
    omega⟩
  have OL : Aside0 (w.heap.size ≤ wa.heap.size) := ⟨HB.out.size⟩
  have GD0 : Aside0 (Gd w (wa.alloc (.cells #[.slice A n c, .int .i64 need, .slice none 0 0, .bool false] 46)) wa.heap.size g A none n c 0 0 who need [] false) := ⟨⟨ST.out.beside.below (below_alloc (Below.refl _ _) _), blk_new _ _, below_alloc HB.out _⟩⟩
  generalize wa.alloc (.cells #[.slice A n c, .int .i64 need, .slice none 0 0, .bool false] 46) = wb at *
  generalize wa.heap.size = o at *
  clear ST HI HB
  go_loopw [13] (fun i wr => ∃ (q : Nat) (B2 : Option Addr) (m2 d2 : Nat) (came : List Int) (is : Bool), i = .int .i64 q ∧ q ≤ 40 ∧ Gd w wr o g A B2 n c m2 d2 who need came is ∧ Rn w B2 m2 d2 came ∧ m2 ≤ 1000) (fun i _ => 40 - (intOf i).toNat)
  case atStart => exact ⟨0, none, 0, 0, [], false, rfl, by omega, GD0.out, Rn.nil _, by omega⟩
  case round =>
    clear GD0
    obtain ⟨q, B1, m1, d1, came, is, rfl, hq, hg, hc, hm⟩ := hrel
    have GD := Aside0.mk hg
    have RC := Aside0.mk hc
    have LC := Aside0.mk hm
    clear hg hc hm
    by_cases hlt : (q : Int) < (m : Int)
    · by_cases h40 : (q : Int) < 40
      · obtain ⟨ad, A0, n0, c0, eB, hcell, hR⟩ := rows_at RR.out q (by omega)
        subst eB
        have CL : Aside0 (∀ W, Below w.heap.size w W → W.cell? (ad.add q) = some (.slice A0 n0 c0) ∧ Rn W A0 n0 c0 (asks.getD q [])) := ⟨fun W hW => ⟨(hW.cell (World.block_lt_of_cell? w _ hcell)).trans hcell, hR.below hW⟩⟩
        have RL := Aside0.mk hR
        clear hcell hR
        generalize asks.getD q [] = l at *
        obtain ⟨e0, _⟩ := CL.out _ GD.out.bel
        by_cases h100 : (100 : Int) < (n0 : Int)
        · go_wp2_with fail
          go_roundw
          case rel => exact ⟨q + 1, B1, m1, d1, came, is, by go_num, by omega, GD.out, RC.out, LC.out⟩
          case measure => simp [intOf]; omega
        · have LN0 : Aside0 (n0 ≤ 1000) := ⟨by omega⟩
          obtain ⟨B2, m2, d2, hB2, hrask⟩ := rask_out A B1 A0 n c m1 d1 n0 c0 need is who came l w wr GD.out.bel RW.out RC.out RL.out LN.out LC.out LN0.out
          have RB2 := Aside0.mk hB2.1
          have LB2 := Aside0.mk hB2.2
          have RK := Aside0.mk hrask
          clear hB2 hrask
          have HAS : Aside0 (∀ W, StO W o g who need came is → o < W.heap.size → Below w.heap.size w W → Calls Tryd.prog 17 #[.pointer (some ⟨g, 0, none⟩), .slice A0 n0 c0] W (Asked o g who need came is l W)) := ⟨fun W h1 h2 h3 => ask_any h1 h2 (CL.out W h3).2 LN0.out⟩
          unfold Asked at HAS
          generalize askC who need came is l = code at *
          generalize nxC code l came = came1 at *
          generalize nxI code is = is1 at *
          obtain ⟨x0, x1, x2, x3, x4, x5, x6, x7⟩ := GD.out.cells
          have KC : Aside0 (∀ W, Below wr.heap.size wr W → W.cell? ⟨o, 0, none⟩ = some (.slice A n c) ∧ W.cell? ⟨o, 1, none⟩ = some (.int .i64 need) ∧ W.cell? ⟨o, 2, none⟩ = some (.slice B1 m1 d1) ∧ W.cell? ⟨o, 3, none⟩ = some (.bool is) ∧ W.cell? (ad.add q) = some (.slice A0 n0 c0)) := ⟨fun W hW => by
            obtain ⟨y0, y1, y2, y3, _⟩ := (GD.out.below hW).cells
            exact ⟨y0, y1, y2, y3, (CL.out W (below_step GD.out.bel hW)).1⟩⟩
          go_upto_region 17 with (fail)
          go_cut [14, 15] (fun v14 v15 wc => ∃ y, v14 = .pointer (some ⟨y, 0, none⟩) ∧ v15 = .int .i64 code ∧ wc.heap[y]? = some (.cells #[.slice A n c, .int .i64 need, .slice B2 m2 d2, .bool is1] 46 (0, 0)) ∧ Below wr.heap.size wr wc)
          case first =>
            have TR := Aside0.mk (Below.refl wr.heap.size wr)
            go_region_held3 (fun W => W.cell? ⟨o, 0, none⟩ = some (.slice A n c) ∧ W.cell? ⟨o, 1, none⟩ = some (.int .i64 need) ∧ W.cell? ⟨o, 2, none⟩ = some (.slice B1 m1 d1) ∧ W.cell? ⟨o, 3, none⟩ = some (.bool is) ∧ W.cell? (ad.add q) = some (.slice A0 n0 c0))
              (first | exact KC.out _ (by repeat (first | exact T3.out | exact TR.out | apply below_drew1 | apply below_alloc | refine gx_far ?_ _ _)))
              (first | (go_at_call 23; (with_reducible refine (RK.out _ (by repeat (first | exact TR.out | apply below_drew1 | apply below_alloc))).mono ?_); rintro v w2 ⟨rfl, hb2, hb3⟩; have T3 := Aside0.mk hb2; (try (have K3 := Aside0.mk (kept46 hb3); obtain ⟨y0, y1, y2, y3, y4, y5, y6, y7⟩ := gx0_cells K3.out)); clear hb2 hb3))
            all_goals go_wp2_with fail
            all_goals go_meet
            all_goals (case rel => first | exact ⟨_, rfl, rfl, gx_put K3.out _ _ _ _, gx_far (gx_far (gx_far (gx_far T3.out _ _) _ _) _ _) _ _⟩ | exact ⟨_, rfl, rfl, blk_new _ _, below_alloc T3.out _⟩)
          case rest =>
            obtain ⟨y, rfl, rfl, hy, hb⟩ := hcut
            have T1_ := Aside0.mk (GD.out.below hb)
            clear GD
            have GD := T1_
            clear T1_ hb e0 x0 x1 x2 x3 x4 x5 x6 x7 KC RK
            obtain ⟨x0, x1, x2, x3, x4, x5, x6, x7⟩ := GD.out.cells
            obtain ⟨y0, y1, y2, y3, _⟩ := gx_cells (A := A) (B := B2) (n := n) (c := c) (m := m2) (d := d2) (need := need) (is := is1) hy
            go_upto_region 19 with (fail)
            obtain ⟨so, xb, bl⟩ := GD.out.put OG.out OL.out (.slice A n c) (.int .i64 need) (.slice B2 m2 d2) (.bool is1)
            have SO := Aside0.mk so
            have XB := Aside0.mk xb
            have BL := Aside0.mk bl
            clear so xb bl hy y0 y1 y2 y3 x0 x1 x2 x3 x4 x5 x6 x7 GD
            generalize (((wc.setCell ⟨o, 0, none⟩ (.slice A n c)).setCell ⟨o, 1, none⟩ (.int .i64 need)).setCell ⟨o, 2, none⟩ (.slice B2 m2 d2)).setCell ⟨o, 3, none⟩ (.bool is1) = w5 at *
            obtain ⟨e0, _⟩ := CL.out _ BL.out
            have hcc : (code != code) = false := by simp
            have hii : (is1 != is1) = false := by simp
            have LN9 : Aside0 (∀ W A9 n9 c9, Rn W A9 n9 c9 came1 → n9 ≤ 1000) := ⟨fun W A9 n9 c9 h => by have h1 := h.len; have h2 := RB2.out.len; have h3 := LB2.out; omega⟩
            go_wp2_with (first | (go_at_call 17; (with_reducible refine (HAS.out _ SO.out (blk_lt XB.out) BL.out).mono ?_); rintro e w6 ⟨rfl, hs6, hg6⟩; have GD : Aside0 (Gd w w6 o g A B2 n c m2 d2 who need came1 is1) := ⟨Gd.asked2 XB.out BL.out hs6 hg6 OG.out HL.out⟩; clear hs6 hg6 SO XB BL e0; obtain ⟨x0, x1, x2, x3, x4, x5, x6, x7⟩ := GD.out.cells) | (go_at_call 21; (with_reducible refine (num_is _ _ (As.LaidG.below HG.out GD.out.bel)).mono ?_); rintro e w7 ⟨rfl, hb⟩; have T1_ := Aside0.mk (GD.out.below hb); clear GD; have GD := T1_; clear T1_; clear x0 x1 x2 x3 x4 x5 x6 x7; obtain ⟨x0, x1, x2, x3, x4, x5, x6, x7⟩ := GD.out.cells; clear hb) | (go_at_call 20; (with_reducible refine (came_is GD.out.so.st).mono ?_); rintro e w8 ⟨A9, n9, c9, rfl, hr9, hb⟩; have T1_ := Aside0.mk (GD.out.below hb); clear GD; have GD := T1_; clear T1_; clear x0 x1 x2 x3 x4 x5 x6 x7; obtain ⟨x0, x1, x2, x3, x4, x5, x6, x7⟩ := GD.out.cells; have R9 := Aside0.mk hr9; clear hb hr9) | (go_at_call 24; (with_reducible refine (ints_is true R9.out (LN9.out _ _ _ _ R9.out) (RB2.out.below GD.out.bel) (decide_eq_true rfl)).mono ?_); rintro e w9 ⟨rfl, hb⟩; have T1_ := Aside0.mk (GD.out.below hb); clear GD; have GD := T1_; clear T1_; clear x0 x1 x2 x3 x4 x5 x6 x7; obtain ⟨x0, x1, x2, x3, x4, x5, x6, x7⟩ := GD.out.cells; clear hb))
            go_loopw [18] (fun v wr => ∃ p : Int, v = .int .i64 p ∧ -1 ≤ p ∧ p ≤ 65 ∧ Gd w wr o g A B2 n c m2 d2 who need came1 is1) (fun v _ => (65 - intOf v).toNat)
            case atStart => exact ⟨-1, rfl, by omega, by omega, GD.out⟩
            case round =>
              clear GD x0 x1 x2 x3 x4 x5 x6 x7
              obtain ⟨p, rfl, hp0, hp1, hg⟩ := hrel
              have GD := Aside0.mk hg
              clear hg
              by_cases hp : p < 65
              · obtain ⟨x0, x1, x2, x3, x4, x5, x6, x7⟩ := GD.out.cells
                have KC : Aside0 (∀ W, Below wr.heap.size wr W → W.cell? ⟨o, 0, none⟩ = some (.slice A n c) ∧ W.cell? ⟨o, 1, none⟩ = some (.int .i64 need) ∧ W.cell? ⟨o, 2, none⟩ = some (.slice B2 m2 d2) ∧ W.cell? ⟨o, 3, none⟩ = some (.bool is1)) := ⟨fun W hW => by
                  obtain ⟨y0, y1, y2, y3, _⟩ := (GD.out.below hW).cells
                  exact ⟨y0, y1, y2, y3⟩⟩
                obtain ⟨s, hs⟩ : ∃ s, outV who came1 is1 p = s := ⟨_, rfl⟩
                have SV := Aside0.mk hs
                clear hs
                have hss : (s != s) = false := by simp
                go_upto_region 27 with (fail)
                go_cut [139] (fun v wc => v = .bool false ∧ Below wr.heap.size wr wc)
                case first =>
                  have TR := Aside0.mk (Below.refl wr.heap.size wr)
                  go_region_held3 (fun W => W.cell? ⟨o, 0, none⟩ = some (.slice A n c) ∧ W.cell? ⟨o, 1, none⟩ = some (.int .i64 need) ∧ W.cell? ⟨o, 2, none⟩ = some (.slice B2 m2 d2) ∧ W.cell? ⟨o, 3, none⟩ = some (.bool is1))
                    (first | exact KC.out _ (by repeat (first | exact T3.out | exact TR.out | apply below_drew1)))
                    (first | (go_at_call 18; (with_reducible refine (out_is _ _ (GD.out.below (by repeat (first | exact T3.out | exact TR.out | apply below_drew1))).so.st SV.out).mono ?_); rintro e w3 ⟨rfl, hb⟩; have T3 := Aside0.mk (below_step (w := wr) (by repeat (first | exact T3.out | exact TR.out | apply below_drew1)) hb); clear hb) | (go_at_call 25; (with_reducible refine (rout_lit A B2 n c m2 d2 need is1 who came1 _ _ _ (RW.out.below (below_step GD.out.bel (by repeat (first | exact T3.out | exact TR.out | apply below_drew1)))) (RB2.out.below (below_step GD.out.bel (by repeat (first | exact T3.out | exact TR.out | apply below_drew1)))) LN.out LB2.out SV.out).mono ?_); rintro e w3 ⟨rfl, hb⟩; have T3 := Aside0.mk (below_step (w := wr) (by repeat (first | exact T3.out | exact TR.out | apply below_drew1)) hb); clear hb))
                  all_goals go_wp2_with fail
                  all_goals go_meet
                  all_goals (case rel => exact ⟨rfl, (by repeat (first | exact T3.out | exact TR.out | apply below_drew1))⟩)
                case rest =>
                  obtain ⟨rfl, hb⟩ := hcut
                  have T1_ := Aside0.mk (GD.out.below hb)
                  clear GD hb
                  go_wp2_with fail
                  go_roundw
                  case rel => exact ⟨p + 1, by go_num, by omega, by omega, T1_.out⟩
                  case measure => simp [intOf]; omega
              · obtain rfl : p = 65 := by omega
                go_wp2_with fail
                go_roundw
                case rel => exact ⟨q + 1, B2, m2, d2, came1, is1, by go_num, by omega, GD.out, RB2.out, LB2.out⟩
                case measure => simp [intOf]; omega
      · go_wp2_with (go_at_call 15; (with_reducible refine (sure26 _ (As.LaidG.below HG.out GD.out.bel)).mono ?_); rintro e ws ⟨rfl, hb⟩)
        go_ret
        exact ⟨rfl, below_step GD.out.bel hb⟩
    · go_wp2_with (go_at_call 15; (with_reducible refine (sure26 _ (As.LaidG.below HG.out GD.out.bel)).mono ?_); rintro e ws ⟨rfl, hb⟩)
      go_ret
      exact ⟨rfl, below_step GD.out.bel hb⟩
end Go.Proofs.YtfomajippdcaoaaDoor.Gu
