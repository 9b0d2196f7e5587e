/-
  The law QuorumRuns, walked.
-/
import Derived.Test.YtfomajippdcaoaaDoorQRef2
import Derived.Test.YtfomajippdcaoaaDoorStays
namespace Go.Proofs.YtfomajippdcaoaaDoor.Qu
open Go.RowKit Go.Proofs.YtfomajippdcaoaaDoorW.PrintWords Go.Proofs.YtfomajippdcaoaaDoorW.PrintLast Go.Proofs.YtfomajippdcaoaaDoorW.PrintMore Go.Proofs.YtfomajippdcaoaaDoor.PSet Go.Proofs.YtfomajippdcaoaaDoor.Sc

/-- the tally, and the document's in block o -/
structure Qd (w wr : World) (t o : Nat) (A B C : Option Addr) (n c m d p q : Nat) (who inn gone : List Int) (need left : Int) : Prop where
  tl : Tl wr (fun k => k = t ∨ k = o) t who inn gone need left
  xb : wr.heap[o]? = some (.cells #[.slice A n c, .int .i64 need, .int .i64 left, .slice B m d, .slice C p q] 63 (0, 0))
  rb : Rn wr B m d inn
  rc : Rn wr C p q gone
  lb : m ≤ 1000
  lc : p ≤ 1000
  vb : Av (fun k => k = t ∨ k = o) B m
  vc : Av (fun k => k = t ∨ k = o) C p
  bel : Below w.heap.size w wr
section
variable {w wr w1 : World} {t o : Nat} {A B C : Option Addr} {n c m d p q : Nat} {who inn gone : List Int} {need left : Int}
theorem Qd.below (h : Qd w wr t o A B C n c m d p q who inn gone need left) (hb : Below wr.heap.size wr w1) : Qd w w1 t o A B C n c m d p q who inn gone need left :=
  ⟨h.tl.below hb, blk_below h.xb hb, h.rb.below hb, h.rc.below hb, h.lb, h.lc, h.vb, h.vc, below_step h.bel hb⟩
theorem Tl.al (h : Tl w (fun k => k = t ∨ k = o) t who inn gone need left) (k : Nat) (hk : k = t ∨ k = o) : k < w.heap.size := by
  obtain ⟨A, B, C, n, c, m, d, p, q, h⟩ := h
  exact h.al k hk
theorem st5_bel {wr : World} (hl : w.heap.size ≤ o) (h : Below w.heap.size w wr) (x0 x1 x2 x3 x4 : Value) : Below w.heap.size w (((((wr.setCell ⟨o, 0, none⟩ x0).setCell ⟨o, 1, none⟩ x1).setCell ⟨o, 2, none⟩ x2).setCell ⟨o, 3, none⟩ x3).setCell ⟨o, 4, none⟩ x4) := by
  have hb : ∀ {W : World} (j : Nat) (v : Value), Below w.heap.size w W → Below w.heap.size w (W.setCell ⟨o, j, none⟩ v) := fun j v h => h.setCell (p := ⟨o, j, none⟩) hl _
  exact hb _ _ (hb _ _ (hb _ _ (hb _ _ (hb _ _ h))))
/-- the document's is put anew; the tally is still the elder one -/
theorem Qd.put {B2 C2 : Option Addr} {m2 d2 p2 q2 : Nat} {inn2 gone2 : List Int} {left2 : Int} (h : Tl wr (fun k => k = t ∨ k = o) t who inn gone need left) (hx : ∃ z0 z1 z2 z3 z4, wr.heap[o]? = some (.cells #[z0, z1, z2, z3, z4] 63 (0, 0))) (hbl : Below w.heap.size w wr) (hne : o ≠ t) (hl : w.heap.size ≤ o)
    (rb : Rn wr B2 m2 d2 inn2) (rc : Rn wr C2 p2 q2 gone2) (vb : Av (fun k => k = t ∨ k = o) B2 m2) (vc : Av (fun k => k = t ∨ k = o) C2 p2) :
    ∀ w5, w5 = (((((wr.setCell ⟨o, 0, none⟩ (.slice A n c)).setCell ⟨o, 1, none⟩ (.int .i64 need)).setCell ⟨o, 2, none⟩ (.int .i64 left2)).setCell ⟨o, 3, none⟩ (.slice B2 m2 d2)).setCell ⟨o, 4, none⟩ (.slice C2 p2 q2)) →
    Tl w5 (fun k => k = t ∨ k = o) t who inn gone need left ∧ w5.heap[o]? = some (.cells #[.slice A n c, .int .i64 need, .int .i64 left2, .slice B2 m2 d2, .slice C2 p2 q2] 63 (0, 0)) ∧ Rn w5 B2 m2 d2 inn2 ∧ Rn w5 C2 p2 q2 gone2 ∧ Below w.heap.size w w5 := by
  rintro w5 rfl
  have hg := st5_below o wr (.slice A n c) (.int .i64 need) (.int .i64 left2) (.slice B2 m2 d2) (.slice C2 p2 q2)
  obtain ⟨z0, z1, z2, z3, z4, hx⟩ := hx
  refine ⟨?_, blk_set (blk_set (blk_set (blk_set (blk_set hx 0 _) 1 _) 2 _) 3 _) 4 _, rb.grown hg (fun hp ad e e2 => vb hp ad e (Or.inr e2)), rc.grown hg (fun hp ad e e2 => vc hp ad e (Or.inr e2)), st5_bel hl hbl _ _ _ _ _⟩
  have ho : (fun k => k = t ∨ k = o) o := Or.inr rfl
  exact ((((h.set ho hne 0 _).set ho hne 1 _).set ho hne 2 _).set ho hne 3 _).set ho hne 4 _
/-- the tally goes on; the document's stays -/
theorem Qd.went {B2 C2 : Option Addr} {m2 d2 p2 q2 : Nat} {inn2 gone2 inn3 gone3 : List Int} {left2 left3 : Int} (hx : wr.heap[o]? = some (.cells #[.slice A n c, .int .i64 need, .int .i64 left2, .slice B2 m2 d2, .slice C2 p2 q2] 63 (0, 0))) (hbl : Below w.heap.size w wr) (hne : o ≠ t) (hl : w.heap.size ≤ t)
    (rb : Rn wr B2 m2 d2 inn2) (rc : Rn wr C2 p2 q2 gone2) (vb : Av (fun k => k = t ∨ k = o) B2 m2) (vc : Av (fun k => k = t ∨ k = o) C2 p2)
    (h1 : Tl w1 (fun k => k = t ∨ k = o) t who inn3 gone3 need left3) (hg : wr.grownBy w1 (some t)) :
    Tl w1 (fun k => k = t ∨ k = o) t who inn3 gone3 need left3 ∧ w1.heap[o]? = some (.cells #[.slice A n c, .int .i64 need, .int .i64 left2, .slice B2 m2 d2, .slice C2 p2 q2] 63 (0, 0)) ∧ Rn w1 B2 m2 d2 inn2 ∧ Rn w1 C2 p2 q2 gone2 ∧ Below w.heap.size w w1 :=
  ⟨h1, (hg.block o (blk_lt hx) (by intro e; exact hne (by injection e))).trans hx, rb.grown hg (fun hp ad e e2 => vb hp ad e (Or.inl e2)), rc.grown hg (fun hp ad e e2 => vc hp ad e (Or.inl e2)), Gu.grant_below hbl hg hl⟩
theorem Qd.mk2 {B2 C2 : Option Addr} {m2 d2 p2 q2 : Nat} {inn2 gone2 : List Int} {left2 : Int} (h : Tl w1 (fun k => k = t ∨ k = o) t who inn2 gone2 need left2 ∧ w1.heap[o]? = some (.cells #[.slice A n c, .int .i64 need, .int .i64 left2, .slice B2 m2 d2, .slice C2 p2 q2] 63 (0, 0)) ∧ Rn w1 B2 m2 d2 inn2 ∧ Rn w1 C2 p2 q2 gone2 ∧ Below w.heap.size w w1)
    (lb : m2 ≤ 1000) (lc : p2 ≤ 1000) (vb : Av (fun k => k = t ∨ k = o) B2 m2) (vc : Av (fun k => k = t ∨ k = o) C2 p2) : Qd w w1 t o A B2 C2 n c m2 d2 p2 q2 who inn2 gone2 need left2 :=
  ⟨h.1, h.2.1, h.2.2.1, h.2.2.2.1, lb, lc, vb, vc, h.2.2.2.2⟩
theorem qw_below {B2 C2 : Option Addr} {m2 d2 p2 q2 : Nat} {inn2 gone2 : List Int} {left2 left3 : Int} {w2 : World} (h : Tl w1 (fun k => k = t ∨ k = o) t who inn2 gone2 need left3 ∧ w1.heap[o]? = some (.cells #[.slice A n c, .int .i64 need, .int .i64 left2, .slice B2 m2 d2, .slice C2 p2 q2] 63 (0, 0)) ∧ Rn w1 B2 m2 d2 inn2 ∧ Rn w1 C2 p2 q2 gone2 ∧ Below w.heap.size w w1) (hb : Below w1.heap.size w1 w2) :
    Tl w2 (fun k => k = t ∨ k = o) t who inn2 gone2 need left3 ∧ w2.heap[o]? = some (.cells #[.slice A n c, .int .i64 need, .int .i64 left2, .slice B2 m2 d2, .slice C2 p2 q2] 63 (0, 0)) ∧ Rn w2 B2 m2 d2 inn2 ∧ Rn w2 C2 p2 q2 gone2 ∧ Below w.heap.size w w2 :=
  ⟨h.1.below hb, blk_below h.2.1 hb, h.2.2.1.below hb, h.2.2.2.1.below hb, below_step h.2.2.2.2 hb⟩
/-- sets in order; ticks within bounds -/
structure Sv (inn gone : List Int) (left : Int) : Prop where
  i : SetL inn
  g : SetL gone
  l0 : 0 ≤ left
  l1 : left ≤ 1000
theorem Sv.came (id : Int) (g : Bool) (h : Sv inn gone left) : Sv (if acode who inn gone need left id = 0 ∧ g = false then more inn id else inn) (if acode who inn gone need left id = 0 ∧ g = true then more gone id else gone) left := by
  refine ⟨?_, ?_, h.l0, h.l1⟩
  · split
    · exact SetL.more _ _
    · exact h.i
  · split
    · exact SetL.more _ _
    · exact h.g
theorem Sv.tick (h : Sv inn gone left) : Sv inn gone (if st who inn gone need left = 0 then left - 1 else left) := by
  have h0 := h.l0
  have h1 := h.l1
  by_cases hc : st who inn gone need left = 0
  · rw [if_pos hc]
    have := st_left hc
    exact ⟨h.i, h.g, by omega, by omega⟩
  · rw [if_neg hc]; exact h
theorem came_if (id : Int) : (if acode who inn gone need left id = 0 then more inn id else inn) = (if acode who inn gone need left id = 0 ∧ false = false then more inn id else inn) ∧ gone = (if acode who inn gone need left id = 0 ∧ false = true then more gone id else gone) := by
  constructor
  · by_cases h : acode who inn gone need left id = 0
    · rw [if_pos h, if_pos ⟨h, rfl⟩]
    · rw [if_neg h, if_neg (fun h1 => h h1.1)]
  · rw [if_neg (fun h => by cases h.2)]
theorem gone_if (id : Int) : (if acode who inn gone need left id = 0 then more gone id else gone) = (if acode who inn gone need left id = 0 ∧ true = true then more gone id else gone) ∧ inn = (if acode who inn gone need left id = 0 ∧ true = false then more inn id else inn) := by
  constructor
  · by_cases h : acode who inn gone need left id = 0
    · rw [if_pos h, if_pos ⟨h, rfl⟩]
    · rw [if_neg h, if_neg (fun h1 => h h1.1)]
  · rw [if_neg (fun h => by cases h.2)]
end

theorem box54 {w : World} {b : Nat} {y z : Int} (h : w.heap[b]? = some (.cells #[.int .i64 y, .int .i64 z] 54 (0, 0))) : w.cell? ⟨b, 0, none⟩ = some (.int .i64 y) ∧ w.cell? ⟨b, 1, none⟩ = some (.int .i64 z) := by
  simp [World.cell?, h]
theorem box65 {w : World} {b : Nat} {y z : Int} (h : w.heap[b]? = some (.cells #[.int .i64 y, .int .i64 z] 65 (0, 0))) : w.cell? ⟨b, 0, none⟩ = some (.int .i64 y) ∧ w.cell? ⟨b, 1, none⟩ = some (.int .i64 z) := by
  simp [World.cell?, h]
set_option maxRecDepth 100000 in
set_option maxHeartbeats 2000000 in
theorem qruns_great (A B : Option Addr) (n c m d : Nat) (need term : Int) (w : World) (hG : As.LaidG w) (hn : 100 < n) :
    Calls Tryd.prog 7 #[.slice A n c, .agg #[.int .i64 need, .int .i64 term], .slice B m d] w (Sc.Told (.bool true) w) := by
  have HG := Aside0.mk hG
  clear hG
  have q1 : decide (100 < (n : Int)) = true := decide_eq_true (by omega)
  have q2 : decide (100 < n) = true := decide_eq_true (by omega)
  clear hn
  go_enter Tryd.func7, Tryd.ntmps7
  go_upto_region 1 with (fail)
  have GB : Aside0 ((w.alloc (.cells #[.int .i64 need, .int .i64 term] 54)).heap[w.heap.size]? = some (.cells #[.int .i64 need, .int .i64 term] 54 (0, 0))) := ⟨blk_new _ _⟩
  have HB : Aside0 (Below w.heap.size w (w.alloc (.cells #[.int .i64 need, .int .i64 term] 54))) := ⟨below_alloc (Below.refl _ _) _⟩
  generalize w.alloc (.cells #[.int .i64 need, .int .i64 term] 54) = wb at *
  obtain ⟨ce0, ce1⟩ := box54 GB.out
  go_wp2_with (first | (go_at_call 26; (with_reducible refine (tick_nil _).mono ?_); rintro e wa ⟨rfl, hb⟩; have T1_ := Aside0.mk (below_step HB.out hb); clear HB; have HB := T1_; clear T1_; (try (have K_ := Aside0.mk (blk_below GB.out hb); clear GB; have GB := K_; clear K_)); clear hb; (try clear ce0 ce1); obtain ⟨ce0, ce1⟩ := box54 GB.out) | (go_at_call 28; (with_reducible refine (came_nil _).mono ?_); rintro e wa ⟨rfl, hb⟩; have T1_ := Aside0.mk (below_step HB.out hb); clear HB; have HB := T1_; clear T1_; (try (have K_ := Aside0.mk (blk_below GB.out hb); clear GB; have GB := K_; clear K_)); clear hb; (try clear ce0 ce1); obtain ⟨ce0, ce1⟩ := box54 GB.out) | (go_at_call 29; (with_reducible refine (gone_nil _).mono ?_); rintro e wa ⟨rfl, hb⟩; have T1_ := Aside0.mk (below_step HB.out hb); clear HB; have HB := T1_; clear T1_; (try (have K_ := Aside0.mk (blk_below GB.out hb); clear GB; have GB := K_; clear K_)); clear hb; (try clear ce0 ce1); obtain ⟨ce0, ce1⟩ := box54 GB.out) | (go_at_call 30; (with_reducible refine (state_nil _).mono ?_); rintro e wa ⟨rfl, hb⟩; have T1_ := Aside0.mk (below_step HB.out hb); clear HB; have HB := T1_; clear T1_; (try (have K_ := Aside0.mk (blk_below GB.out hb); clear GB; have GB := K_; clear K_)); clear hb; (try clear ce0 ce1); obtain ⟨ce0, ce1⟩ := box54 GB.out) | (go_at_call 31; (with_reducible refine (in_nil _).mono ?_); rintro e wa ⟨rfl, hb⟩; have T1_ := Aside0.mk (below_step HB.out hb); clear HB; have HB := T1_; clear T1_; (try (have K_ := Aside0.mk (blk_below GB.out hb); clear GB; have GB := K_; clear K_)); clear hb; (try clear ce0 ce1); obtain ⟨ce0, ce1⟩ := box54 GB.out) | (go_at_call 32; (with_reducible refine (lacks_nil _).mono ?_); rintro e wa ⟨rfl, hb⟩; have T1_ := Aside0.mk (below_step HB.out hb); clear HB; have HB := T1_; clear T1_; (try (have K_ := Aside0.mk (blk_below GB.out hb); clear GB; have GB := K_; clear K_)); clear hb; (try clear ce0 ce1); obtain ⟨ce0, ce1⟩ := box54 GB.out) | (go_at_call 27; (with_reducible refine (As.num27_some _ _ (As.LaidG.below HG.out HB.out)).mono ?_); rintro e wa ⟨rfl, hb⟩; have T1_ := Aside0.mk (below_step HB.out hb); clear HB; have HB := T1_; clear T1_; (try (have K_ := Aside0.mk (blk_below GB.out hb); clear GB; have GB := K_; clear K_)); clear hb; (try clear ce0 ce1); obtain ⟨ce0, ce1⟩ := box54 GB.out) | (go_at_call 33; (with_reducible refine (sure23 _ (As.LaidG.below HG.out HB.out)).mono ?_); rintro e wa ⟨rfl, hb⟩; have T1_ := Aside0.mk (below_step HB.out hb); clear HB; have HB := T1_; clear T1_; (try (have K_ := Aside0.mk (blk_below GB.out hb); clear GB; have GB := K_; clear K_)); clear hb; (try clear ce0 ce1); obtain ⟨ce0, ce1⟩ := box54 GB.out))
  go_ret
  exact ⟨rfl, HB.out⟩
set_option maxRecDepth 100000 in
set_option maxHeartbeats 2000000 in
theorem qruns_bad (A B : Option Addr) (n c m d : Nat) (who : List Int) (need term : Int) (w : World) (hG : As.LaidG w) (hn : ¬ 100 < n) (hw : Rn w A n c who) (hbad : (inc (-1) who && decide (1 ≤ need) && decide (need ≤ who.length) && decide (1 ≤ term) && decide (term ≤ 1000)) = false) :
    Calls Tryd.prog 7 #[.slice A n c, .agg #[.int .i64 need, .int .i64 term], .slice B m d] w (Sc.Told (.bool true) w) := by
  have HG := Aside0.mk hG
  clear hG
  have RW := Aside0.mk hw
  have LN : Aside0 (n ≤ 1000) := ⟨by omega⟩
  have q1 : decide (100 < (n : Int)) = false := decide_eq_false (by omega)
  have q2 : decide (100 < n) = false := decide_eq_false (by omega)
  have BD : Aside0 (∀ W, Below w.heap.size w W → Calls Tryd.prog 34 #[.slice A n c, .int .i64 need, .int .i64 term] W (Sc.Told (.tuple #[.pointer none, .iface 75 (.int .i64 1)]) W)) := ⟨fun W hW => by
    cases hi : inc (-1) who with
    | false => exact new_no need term (hw.below hW) (by omega) hi
    | true => exact new_bad need term (hw.below hW) (by omega) hi (by
        have hl := hw.len
        rw [hi] at hbad
        by_cases h1 : need < 1
        · exact Or.inl h1
        · by_cases h2 : (n : Int) < need
          · exact Or.inr (Or.inl h2)
          · by_cases h3 : term < 1
            · exact Or.inr (Or.inr (Or.inl h3))
            · refine Or.inr (Or.inr (Or.inr ?_))
              refine Classical.byContradiction fun h4 => ?_
              simp at hbad
              have := hbad (by omega) (by omega) (by omega)
              omega)⟩
  have HBAD := Aside0.mk hbad
  clear hn hw hbad
  go_enter Tryd.func7, Tryd.ntmps7
  go_upto_region 1 with (fail)
  have GB : Aside0 ((w.alloc (.cells #[.int .i64 need, .int .i64 term] 54)).heap[w.heap.size]? = some (.cells #[.int .i64 need, .int .i64 term] 54 (0, 0))) := ⟨blk_new _ _⟩
  have HB : Aside0 (Below w.heap.size w (w.alloc (.cells #[.int .i64 need, .int .i64 term] 54))) := ⟨below_alloc (Below.refl _ _) _⟩
  generalize w.alloc (.cells #[.int .i64 need, .int .i64 term] 54) = wb at *
  obtain ⟨ce0, ce1⟩ := box54 GB.out
  go_wp2_with (first | (go_at_call 26; (with_reducible refine (tick_nil _).mono ?_); rintro e wa ⟨rfl, hb⟩; have T1_ := Aside0.mk (below_step HB.out hb); clear HB; have HB := T1_; clear T1_; (try (have K_ := Aside0.mk (blk_below GB.out hb); clear GB; have GB := K_; clear K_)); clear hb; (try clear ce0 ce1); obtain ⟨ce0, ce1⟩ := box54 GB.out) | (go_at_call 28; (with_reducible refine (came_nil _).mono ?_); rintro e wa ⟨rfl, hb⟩; have T1_ := Aside0.mk (below_step HB.out hb); clear HB; have HB := T1_; clear T1_; (try (have K_ := Aside0.mk (blk_below GB.out hb); clear GB; have GB := K_; clear K_)); clear hb; (try clear ce0 ce1); obtain ⟨ce0, ce1⟩ := box54 GB.out) | (go_at_call 29; (with_reducible refine (gone_nil _).mono ?_); rintro e wa ⟨rfl, hb⟩; have T1_ := Aside0.mk (below_step HB.out hb); clear HB; have HB := T1_; clear T1_; (try (have K_ := Aside0.mk (blk_below GB.out hb); clear GB; have GB := K_; clear K_)); clear hb; (try clear ce0 ce1); obtain ⟨ce0, ce1⟩ := box54 GB.out) | (go_at_call 30; (with_reducible refine (state_nil _).mono ?_); rintro e wa ⟨rfl, hb⟩; have T1_ := Aside0.mk (below_step HB.out hb); clear HB; have HB := T1_; clear T1_; (try (have K_ := Aside0.mk (blk_below GB.out hb); clear GB; have GB := K_; clear K_)); clear hb; (try clear ce0 ce1); obtain ⟨ce0, ce1⟩ := box54 GB.out) | (go_at_call 31; (with_reducible refine (in_nil _).mono ?_); rintro e wa ⟨rfl, hb⟩; have T1_ := Aside0.mk (below_step HB.out hb); clear HB; have HB := T1_; clear T1_; (try (have K_ := Aside0.mk (blk_below GB.out hb); clear GB; have GB := K_; clear K_)); clear hb; (try clear ce0 ce1); obtain ⟨ce0, ce1⟩ := box54 GB.out) | (go_at_call 32; (with_reducible refine (lacks_nil _).mono ?_); rintro e wa ⟨rfl, hb⟩; have T1_ := Aside0.mk (below_step HB.out hb); clear HB; have HB := T1_; clear T1_; (try (have K_ := Aside0.mk (blk_below GB.out hb); clear GB; have GB := K_; clear K_)); clear hb; (try clear ce0 ce1); obtain ⟨ce0, ce1⟩ := box54 GB.out) | (go_at_call 27; (with_reducible refine (As.num27_some _ _ (As.LaidG.below HG.out HB.out)).mono ?_); rintro e wa ⟨rfl, hb⟩; have T1_ := Aside0.mk (below_step HB.out hb); clear HB; have HB := T1_; clear T1_; (try (have K_ := Aside0.mk (blk_below GB.out hb); clear GB; have GB := K_; clear K_)); clear hb; (try clear ce0 ce1); obtain ⟨ce0, ce1⟩ := box54 GB.out) | (go_at_call 34; (with_reducible refine (BD.out _ HB.out).mono ?_); rintro e wa ⟨rfl, hb⟩; have T1_ := Aside0.mk (below_step HB.out hb); clear HB; have HB := T1_; clear T1_; (try (have K_ := Aside0.mk (blk_below GB.out hb); clear GB; have GB := K_; clear K_)); clear hb; (try clear ce0 ce1); obtain ⟨ce0, ce1⟩ := box54 GB.out) | (go_at_call 35; (with_reducible refine (may23_is false _ _ (RW.out.below HB.out) LN.out HBAD.out).mono ?_); rintro e wa ⟨rfl, hb⟩; have T1_ := Aside0.mk (below_step HB.out hb); clear HB; have HB := T1_; clear T1_; (try (have K_ := Aside0.mk (blk_below GB.out hb); clear GB; have GB := K_; clear K_)); clear hb; (try clear ce0 ce1); obtain ⟨ce0, ce1⟩ := box54 GB.out) | (go_at_call 33; (with_reducible refine (sure23 _ (As.LaidG.below HG.out HB.out)).mono ?_); rintro e wa ⟨rfl, hb⟩; have T1_ := Aside0.mk (below_step HB.out hb); clear HB; have HB := T1_; clear T1_; (try (have K_ := Aside0.mk (blk_below GB.out hb); clear GB; have GB := K_; clear K_)); clear hb; (try clear ce0 ce1); obtain ⟨ce0, ce1⟩ := box54 GB.out))
  go_ret
  exact ⟨rfl, HB.out⟩
section
variable {w : World} {av : Nat → Prop} {t : Nat} {who inn gone : List Int} {need left : Int}
theorem came_to2 (id : Int) (hs : Tl w av t who inn gone need left) : Calls Tryd.prog 28 #[.pointer (some ⟨t, 0, none⟩), .int .i64 id] w fun e w' => e = .returned (errV (acode who inn gone need left id)) ∧
    Tl w' av t who (if acode who inn gone need left id = 0 ∧ false = false then more inn id else inn) (if acode who inn gone need left id = 0 ∧ false = true then more gone id else gone) need left ∧ w.grownBy w' (some t) := by
  refine (came_is id hs).mono ?_
  rintro e w' ⟨rfl, h1, h2⟩
  obtain ⟨e1, e2⟩ := came_if (who := who) (inn := inn) (gone := gone) (need := need) (left := left) id
  rw [e1] at h1
  rw [← e2]
  exact ⟨rfl, h1, h2⟩
theorem gone_to2 (id : Int) (hs : Tl w av t who inn gone need left) : Calls Tryd.prog 29 #[.pointer (some ⟨t, 0, none⟩), .int .i64 id] w fun e w' => e = .returned (errV (acode who inn gone need left id)) ∧
    Tl w' av t who (if acode who inn gone need left id = 0 ∧ true = false then more inn id else inn) (if acode who inn gone need left id = 0 ∧ true = true then more gone id else gone) need left ∧ w.grownBy w' (some t) := by
  refine (gone_is id hs).mono ?_
  rintro e w' ⟨rfl, h1, h2⟩
  obtain ⟨e1, e2⟩ := gone_if (who := who) (inn := inn) (gone := gone) (need := need) (left := left) id
  rw [e1] at h1
  rw [← e2]
  exact ⟨rfl, h1, h2⟩
end
theorem some_to {n c n1 c1 : Nat} {A B : Option Addr} {l m xs : List Int} {w : World} (h : Rn w A n c l) (hl : n ≤ 1000) (h1 : Rn w B n1 c1 m) (hl1 : n1 ≤ 1000) (hx : sel (pick 2 l m) = xs) : Calls Tryd.prog 40 #[.slice A n c, .slice B n1 c1, .int .i64 2] w (MadeR xs w) := by
  rw [← hx]
  exact some_is 2 (Or.inr rfl) h hl h1 hl1
theorem blk_grown {w w1 : World} {a r : Nat} {o : Obj} (h : w.heap[a]? = some o) (hg : w.grownBy w1 (some r)) (hne : a ≠ r) : w1.heap[a]? = some o :=
  (hg.block a (blk_lt h) (by intro e; exact hne (by injection e))).trans h

set_option maxRecDepth 100000 in
set_option maxHeartbeats 2000000 in
theorem qruns_go (A B : Option Addr) (n c m d : Nat) (who : List Int) (f g : Nat → Int) (need term : Int) (w : World) (hG : As.LaidG w) (hn : ¬ 100 < n) (hw : Rn w A n c who) (hp : Prs w B m f g) (hi : inc (-1) who = true) (hd1 : 1 ≤ need) (hd2 : need ≤ n) (hd3 : 1 ≤ term) (hd4 : term ≤ 1000) :
    Calls Tryd.prog 7 #[.slice A n c, .agg #[.int .i64 need, .int .i64 term], .slice B m d] w (Sc.Told (.bool true) w) := by
  have HG := Aside0.mk hG
  clear hG
  have RW := Aside0.mk hw
  have HP := Aside0.mk hp
  have LN : Aside0 (n ≤ 1000) := ⟨by omega⟩
  have HI := Aside0.mk hi
  have D1 := Aside0.mk hd1
  have D2 := Aside0.mk hd2
  have D3 := Aside0.mk hd3
  have D4 := Aside0.mk hd4
  have HGOOD : Aside0 ((inc (-1) who && decide (1 ≤ need) && decide (need ≤ who.length) && decide (1 ≤ term) && decide (term ≤ 1000)) = true) := ⟨by
    rw [hi, decide_eq_true hd1, decide_eq_true (by have := hw.len; omega : need ≤ who.length), decide_eq_true hd3, decide_eq_true hd4]; rfl⟩
  have q1 : decide (100 < (n : Int)) = false := decide_eq_false (by omega)
  have q2 : decide (100 < n) = false := decide_eq_false (by omega)
  clear hn hw hi hp hd1 hd2 hd3 hd4
  go_enter Tryd.func7, Tryd.ntmps7
  go_upto_region 1 with (fail)
  have GB : Aside0 ((w.alloc (.cells #[.int .i64 need, .int .i64 term] 54)).heap[w.heap.size]? = some (.cells #[.int .i64 need, .int .i64 term] 54 (0, 0))) := ⟨blk_new _ _⟩
  have HB : Aside0 (Below w.heap.size w (w.alloc (.cells #[.int .i64 need, .int .i64 term] 54))) := ⟨below_alloc (Below.refl _ _) _⟩
  generalize w.alloc (.cells #[.int .i64 need, .int .i64 term] 54) = wb at *
  obtain ⟨ce0, ce1⟩ := box54 GB.out
  go_wp2_with (first | (go_at_call 26; (with_reducible refine (tick_nil _).mono ?_); rintro e wa ⟨rfl, hb⟩; have T1_ := Aside0.mk (below_step HB.out hb); clear HB; have HB := T1_; clear T1_; (try (have K_ := Aside0.mk (blk_below GB.out hb); clear GB; have GB := K_; clear K_)); clear hb; (try clear ce0 ce1); obtain ⟨ce0, ce1⟩ := box54 GB.out) | (go_at_call 28; (with_reducible refine (came_nil _).mono ?_); rintro e wa ⟨rfl, hb⟩; have T1_ := Aside0.mk (below_step HB.out hb); clear HB; have HB := T1_; clear T1_; (try (have K_ := Aside0.mk (blk_below GB.out hb); clear GB; have GB := K_; clear K_)); clear hb; (try clear ce0 ce1); obtain ⟨ce0, ce1⟩ := box54 GB.out) | (go_at_call 29; (with_reducible refine (gone_nil _).mono ?_); rintro e wa ⟨rfl, hb⟩; have T1_ := Aside0.mk (below_step HB.out hb); clear HB; have HB := T1_; clear T1_; (try (have K_ := Aside0.mk (blk_below GB.out hb); clear GB; have GB := K_; clear K_)); clear hb; (try clear ce0 ce1); obtain ⟨ce0, ce1⟩ := box54 GB.out) | (go_at_call 30; (with_reducible refine (state_nil _).mono ?_); rintro e wa ⟨rfl, hb⟩; have T1_ := Aside0.mk (below_step HB.out hb); clear HB; have HB := T1_; clear T1_; (try (have K_ := Aside0.mk (blk_below GB.out hb); clear GB; have GB := K_; clear K_)); clear hb; (try clear ce0 ce1); obtain ⟨ce0, ce1⟩ := box54 GB.out) | (go_at_call 31; (with_reducible refine (in_nil _).mono ?_); rintro e wa ⟨rfl, hb⟩; have T1_ := Aside0.mk (below_step HB.out hb); clear HB; have HB := T1_; clear T1_; (try (have K_ := Aside0.mk (blk_below GB.out hb); clear GB; have GB := K_; clear K_)); clear hb; (try clear ce0 ce1); obtain ⟨ce0, ce1⟩ := box54 GB.out) | (go_at_call 32; (with_reducible refine (lacks_nil _).mono ?_); rintro e wa ⟨rfl, hb⟩; have T1_ := Aside0.mk (below_step HB.out hb); clear HB; have HB := T1_; clear T1_; (try (have K_ := Aside0.mk (blk_below GB.out hb); clear GB; have GB := K_; clear K_)); clear hb; (try clear ce0 ce1); obtain ⟨ce0, ce1⟩ := box54 GB.out) | (go_at_call 27; (with_reducible refine (As.num27_some _ _ (As.LaidG.below HG.out HB.out)).mono ?_); rintro e wa ⟨rfl, hb⟩; have T1_ := Aside0.mk (below_step HB.out hb); clear HB; have HB := T1_; clear T1_; (try (have K_ := Aside0.mk (blk_below GB.out hb); clear GB; have GB := K_; clear K_)); clear hb; (try clear ce0 ce1); obtain ⟨ce0, ce1⟩ := box54 GB.out) | (go_at_call 34; (with_reducible refine (new_ok _ _ (RW.out.below HB.out) LN.out HI.out D1.out D2.out D3.out D4.out).mono ?_); rintro e wa ⟨t, rfl, hs, hb, hl⟩; have TL := Aside0.mk hs; have HL := Aside0.mk (Nat.le_trans HB.out.size hl); clear hs hl; have T1_ := Aside0.mk (below_step HB.out hb); clear HB; have HB := T1_; clear T1_; (try (have K_ := Aside0.mk (blk_below GB.out hb); clear GB; have GB := K_; clear K_)); clear hb; (try clear ce0 ce1); obtain ⟨ce0, ce1⟩ := box54 GB.out) | (go_at_call 35; (with_reducible refine (may23_is true _ _ (RW.out.below HB.out) LN.out HGOOD.out).mono ?_); rintro e wa ⟨rfl, hb⟩; have T2_ := Aside0.mk (TL.out.below hb); clear TL; have TL := T2_; clear T2_; have T1_ := Aside0.mk (below_step HB.out hb); clear HB; have HB := T1_; clear T1_; (try (have K_ := Aside0.mk (blk_below GB.out hb); clear GB; have GB := K_; clear K_)); clear hb; (try clear ce0 ce1); obtain ⟨ce0, ce1⟩ := box54 GB.out))
  have OT : Aside0 (wa.heap.size ≠ t) := ⟨by
    obtain ⟨A1, B1, C1, n1, c1, m1, d1, p1, q1, hs⟩ := TL.out
    have := hs.al t hs.tv
    omega⟩
  have OL : Aside0 (w.heap.size ≤ wa.heap.size) := ⟨HB.out.size⟩
  have GD0 : Aside0 (Qd w (wa.alloc (.cells #[.slice A n c, .int .i64 need, .int .i64 term, .slice none 0 0, .slice none 0 0] 63)) t wa.heap.size A none none n c 0 0 0 0 who [] [] need term) := ⟨⟨TL.out.beside _, blk_new _ _, Rn.nil _, Rn.nil _, by omega, by omega, fun hp => absurd hp (Nat.lt_irrefl 0), fun hp => absurd hp (Nat.lt_irrefl 0), below_alloc HB.out _⟩⟩
  have SX0 : Aside0 (Sv [] [] term) := ⟨⟨SetL.nil, SetL.nil, by have := D3.out; omega, D4.out⟩⟩
  generalize wa.alloc (.cells #[.slice A n c, .int .i64 need, .int .i64 term, .slice none 0 0, .slice none 0 0] 63) = wb at *
  generalize wa.heap.size = o at *
  clear TL HB GB ce0 ce1
  go_loopw [11] (fun i wr => ∃ (q : Nat) (left : Int) (inn gone : List Int) (B1 C1 : Option Addr) (m1 d1 p1 q1 : Nat), i = .int .i64 q ∧ q ≤ 200 ∧ Qd w wr t o A B1 C1 n c m1 d1 p1 q1 who inn gone need left ∧ Sv inn gone left) (fun i _ => 200 - (intOf i).toNat)
  case atStart => exact ⟨0, term, [], [], none, none, 0, 0, 0, 0, rfl, by omega, GD0.out, SX0.out⟩
  case round =>
    clear GD0 SX0
    obtain ⟨q, left, inn, gone, B1, C1, m1, d1, p1, q1, rfl, hq, hg, hsx⟩ := hrel
    have GD := Aside0.mk hg
    have SX := Aside0.mk hsx
    clear hg hsx
    by_cases hlt : (q : Int) < (m : Int)
    · by_cases h200 : (q : Int) < 200
      · obtain ⟨b, off, rfl, hcell⟩ := HP.out (by omega)
        obtain ⟨h0, h1⟩ := hcell q (by omega)
        have e0 := (GD.out.bel.cell (World.block_lt_of_cell? w _ h0)).trans h0
        have e1 := (GD.out.bel.cell (World.block_lt_of_cell? w _ h1)).trans h1
        clear hcell h0 h1
        generalize f q = K at *
        generalize g q = I at *
        go_upto_region 17 with (fail)
        have BA := below_alloc (Below.refl wr.heap.size wr) (.cells #[.int .i64 K, .int .i64 I] 65)
        have AB := Aside0.mk (blk_new wr (.cells #[.int .i64 K, .int .i64 I] 65))
        have NAO : Aside0 (wr.heap.size ≠ o) := ⟨by have := blk_lt GD.out.xb; omega⟩
        have NAT : Aside0 (wr.heap.size ≠ t) := ⟨by have := Tl.al GD.out.tl t (Or.inl rfl); omega⟩
        have G_ := Aside0.mk (GD.out.below BA)
        clear GD BA e0 e1
        have GD := G_
        clear G_
        generalize wr.alloc (.cells #[.int .i64 K, .int .i64 I] 65) = wx at *
        generalize wr.heap.size = a at *
        obtain ⟨a0, a1⟩ := box65 AB.out
        obtain ⟨x0, x1, x2, x3, x4, x5, x6, x7, x8, x9⟩ := cs5_of GD.out.xb
        by_cases hk0 : K = 0
        · subst hk0
          have RCK := Aside0.mk (fun W (hW : Below wx.heap.size wx W) => rcame_is (av := fun k => k = t ∨ k = o) (need := need) (left := left) I false (RW.out.below (below_step GD.out.bel hW)) (GD.out.rb.below hW) (GD.out.rc.below hW) LN.out GD.out.lb GD.out.lc GD.out.vb GD.out.vc (fun k hk => Nat.lt_of_lt_of_le (Tl.al GD.out.tl k hk) hW.size))
          have SX2 := Aside0.mk (SX.out.came (who := who) (need := need) I false)
          have ACK := Aside0.mk (fun W (hW : Tl W (fun k => k = t ∨ k = o) t who inn gone need left) => came_to2 I hW)
          unfold RCame at RCK
          generalize (if acode who inn gone need left I = 0 ∧ false = false then more inn I else inn) = inn2 at *
          generalize (if acode who inn gone need left I = 0 ∧ false = true then more gone I else gone) = gone2 at *
          generalize acode who inn gone need left I = cd at *
          have hcc : (cd != cd) = false := by simp
          go_upto_region 23 with (go_at_call 36; (with_reducible refine (RCK.out _ (Below.refl _ _)).mono ?_); rintro e w5 ⟨B2, m2, d2, C2, p2, q2, rfl, ⟨hrb, hlb, hvb⟩, ⟨hrc, hlc, hvc⟩, hb⟩; have G5 := Aside0.mk (GD.out.below hb); have A5 := Aside0.mk (blk_below AB.out hb); have RB2 := Aside0.mk hrb; have RC2 := Aside0.mk hrc; have LB2 := Aside0.mk hlb; have LC2 := Aside0.mk hlc; have VB2 := Aside0.mk hvb; have VC2 := Aside0.mk hvc; clear hrb hrc hlb hlc hvb hvc hb GD AB RCK x0 x1 x2 x3 x4 x5 x6 x7 x8 x9 a0 a1)
          have BY := below_alloc (Below.refl w5.heap.size w5) (.cells #[.slice A n c, .int .i64 need, .int .i64 left, .slice B2 m2 d2, .slice C2 p2 q2] 63)
          have YB := Aside0.mk (blk_new w5 (.cells #[.slice A n c, .int .i64 need, .int .i64 left, .slice B2 m2 d2, .slice C2 p2 q2] 63))
          have G6 := Aside0.mk (G5.out.below BY)
          have A6 := Aside0.mk (blk_below A5.out BY)
          have RB6 := Aside0.mk (RB2.out.below BY)
          have RC6 := Aside0.mk (RC2.out.below BY)
          clear BY G5 A5 RB2 RC2
          generalize w5.alloc (.cells #[.slice A n c, .int .i64 need, .int .i64 left, .slice B2 m2 d2, .slice C2 p2 q2] 63) = w6 at *
          obtain ⟨x0, x1, x2, x3, x4, x5, x6, x7, x8, x9⟩ := cs5_of G6.out.xb
          obtain ⟨y0, y1, y2, y3, y4, _⟩ := cs5_of YB.out
          go_upto_region 24 with (fail)
          obtain ⟨p1, p2', p3, p4, p5⟩ := Qd.put (A := A) (n := n) (c := c) (left2 := left) G6.out.tl ⟨_, _, _, _, _, G6.out.xb⟩ G6.out.bel OT.out OL.out RB6.out RC6.out VB2.out VC2.out _ rfl
          have P1 := Aside0.mk p1
          have P2 := Aside0.mk p2'
          have P3 := Aside0.mk p3
          have P4 := Aside0.mk p4
          have P5 := Aside0.mk p5
          have A7 := Aside0.mk (blk_grown A6.out (st5_below o w6 (.slice A n c) (.int .i64 need) (.int .i64 left) (.slice B2 m2 d2) (.slice C2 p2 q2)) NAO.out)
          clear p1 p2' p3 p4 p5 A6 G6 RB6 RC6 x0 x1 x2 x3 x4 x5 x6 x7 x8 x9 y0 y1 y2 y3 y4 YB
          generalize ((((w6.setCell ⟨o, 0, none⟩ (.slice A n c)).setCell ⟨o, 1, none⟩ (.int .i64 need)).setCell ⟨o, 2, none⟩ (.int .i64 left)).setCell ⟨o, 3, none⟩ (.slice B2 m2 d2)).setCell ⟨o, 4, none⟩ (.slice C2 p2 q2) = w7 at *
          obtain ⟨a0, a1⟩ := box65 A7.out
          go_upto_region 26 with (first | (go_at_call 28; (with_reducible refine (ACK.out _ P1.out).mono ?_); rintro e w8 ⟨rfl, hs, hg⟩; have GD := Aside0.mk (Qd.mk2 (Qd.went P2.out P5.out OT.out HL.out P3.out P4.out VB2.out VC2.out hs hg) LB2.out LC2.out VB2.out VC2.out); have A8 := Aside0.mk (blk_grown A7.out hg NAT.out); clear hs hg P1 P2 P3 P4 P5 A7 a0 a1; obtain ⟨a0, a1⟩ := box65 A8.out) | (go_at_call 27; (with_reducible refine (num_is _ _ (As.LaidG.below HG.out GD.out.bel)).mono ?_); rintro e w9 ⟨rfl, hb⟩; have T1_ := Aside0.mk (GD.out.below hb); clear GD; have GD := T1_; clear T1_; have A9 := Aside0.mk (blk_below A8.out hb); clear hb A8 a0 a1; obtain ⟨a0, a1⟩ := box65 A9.out))
          clear SX a0 a1 A9
          have SX := SX2
          clear SX2 ACK
          obtain ⟨s, hsv⟩ : ∃ s, st who inn2 gone2 need left = s := ⟨_, rfl⟩
          have SV := Aside0.mk hsv
          obtain ⟨L, hL⟩ : ∃ L, sel (pick 2 who inn2) = L := ⟨_, rfl⟩
          have LE := Aside0.mk hL
          have LK : Aside0 (∀ W A9 n9 c9, Rn W A9 n9 c9 L → n9 ≤ 1000) := ⟨fun W A9 n9 c9 h => by have h1 := h.len; have h2 := sel_len (pick 2 who inn2); rw [hL] at h2; omega⟩
          have LI : Aside0 (∀ W A9 n9 c9, Rn W A9 n9 c9 inn2 → n9 ≤ 1000) := ⟨fun W A9 n9 c9 h => by have h1 := h.len; have h2 := SX.out.i.len; omega⟩
          clear hsv hL
          have hss : (s != s) = false := by simp
          obtain ⟨x0, x1, x2, x3, x4, x5, x6, x7, x8, x9⟩ := cs5_of GD.out.xb
          have KC : Aside0 (∀ W, Below w9.heap.size w9 W → W.cell? ⟨o, 0, none⟩ = some (.slice A n c) ∧ W.cell? ⟨o, 1, none⟩ = some (.int .i64 need) ∧ W.cell? ⟨o, 2, none⟩ = some (.int .i64 left) ∧ W.cell? ⟨o, 3, none⟩ = some (.slice B2 m2 d2) ∧ W.cell? ⟨o, 4, none⟩ = some (.slice C2 p2 q2)) := ⟨fun W hW => by
            obtain ⟨y0, y1, y2, y3, y4, _⟩ := cs5_of (GD.out.below hW).xb
            exact ⟨y0, y1, y2, y3, y4⟩⟩
          go_upto_region 26 with (fail)
          go_cut [166] (fun v wc => v = .bool false ∧ Below w9.heap.size w9 wc)
          case first =>
            have TR := Aside0.mk (Below.refl w9.heap.size w9)
            go_region_held3 (fun W => W.cell? ⟨o, 0, none⟩ = some (.slice A n c) ∧ W.cell? ⟨o, 1, none⟩ = some (.int .i64 need) ∧ W.cell? ⟨o, 2, none⟩ = some (.int .i64 left) ∧ W.cell? ⟨o, 3, none⟩ = some (.slice B2 m2 d2) ∧ W.cell? ⟨o, 4, none⟩ = some (.slice C2 p2 q2))
              (first | exact KC.out _ (by repeat (first | exact T3.out | exact TR.out | apply below_drew1)))
              (first | (go_at_call 30; (with_reducible refine (state_is _ (GD.out.tl.below (by repeat (first | exact T3.out | exact TR.out | apply below_drew1))) SV.out).mono ?_); rintro e w3 ⟨rfl, hb⟩; (try (have T1_ := Aside0.mk (RI.out.below (below_step (by repeat (first | exact Below.refl _ _ | apply below_drew1)) hb)); clear RI; have RI := T1_; clear T1_)); (try (have T1_ := Aside0.mk (RK.out.below (below_step (by repeat (first | exact Below.refl _ _ | apply below_drew1)) hb)); clear RK; have RK := T1_; clear T1_)); (try (have T1_ := Aside0.mk (RS.out.below (below_step (by repeat (first | exact Below.refl _ _ | apply below_drew1)) hb)); clear RS; have RS := T1_; clear T1_)); have T3 := Aside0.mk (below_step (w := w9) (by repeat (first | exact T3.out | exact TR.out | apply below_drew1)) hb); clear hb) | (go_at_call 38; (with_reducible refine (rstate_is _ (RW.out.below (below_step GD.out.bel (by repeat (first | exact T3.out | exact TR.out | apply below_drew1)))) (GD.out.rb.below (by repeat (first | exact T3.out | exact TR.out | apply below_drew1))) (GD.out.rc.below (by repeat (first | exact T3.out | exact TR.out | apply below_drew1))) LN.out GD.out.lc SV.out).mono ?_); rintro e w3 ⟨rfl, hb⟩; (try (have T1_ := Aside0.mk (RI.out.below (below_step (by repeat (first | exact Below.refl _ _ | apply below_drew1)) hb)); clear RI; have RI := T1_; clear T1_)); (try (have T1_ := Aside0.mk (RK.out.below (below_step (by repeat (first | exact Below.refl _ _ | apply below_drew1)) hb)); clear RK; have RK := T1_; clear T1_)); (try (have T1_ := Aside0.mk (RS.out.below (below_step (by repeat (first | exact Below.refl _ _ | apply below_drew1)) hb)); clear RS; have RS := T1_; clear T1_)); have T3 := Aside0.mk (below_step (w := w9) (by repeat (first | exact T3.out | exact TR.out | apply below_drew1)) hb); clear hb) | (go_at_call 31; (with_reducible refine (in_is (GD.out.tl.below (by repeat (first | exact T3.out | exact TR.out | apply below_drew1))) SX.out.i).mono ?_); rintro e w3 ⟨AI, nI, cI, rfl, hr, hb⟩; (try (have T1_ := Aside0.mk (RI.out.below (below_step (by repeat (first | exact Below.refl _ _ | apply below_drew1)) hb)); clear RI; have RI := T1_; clear T1_)); (try (have T1_ := Aside0.mk (RK.out.below (below_step (by repeat (first | exact Below.refl _ _ | apply below_drew1)) hb)); clear RK; have RK := T1_; clear T1_)); (try (have T1_ := Aside0.mk (RS.out.below (below_step (by repeat (first | exact Below.refl _ _ | apply below_drew1)) hb)); clear RS; have RS := T1_; clear T1_)); have T3 := Aside0.mk (below_step (w := w9) (by repeat (first | exact T3.out | exact TR.out | apply below_drew1)) hb); (try clear RI); have RI := Aside0.mk hr; clear hr; clear hb) | (go_at_call 32; (with_reducible refine (lacks_to (GD.out.tl.below (by repeat (first | exact T3.out | exact TR.out | apply below_drew1))) LE.out).mono ?_); rintro e w3 ⟨AK, nK, cK, rfl, hr, hb⟩; (try (have T1_ := Aside0.mk (RI.out.below (below_step (by repeat (first | exact Below.refl _ _ | apply below_drew1)) hb)); clear RI; have RI := T1_; clear T1_)); (try (have T1_ := Aside0.mk (RK.out.below (below_step (by repeat (first | exact Below.refl _ _ | apply below_drew1)) hb)); clear RK; have RK := T1_; clear T1_)); (try (have T1_ := Aside0.mk (RS.out.below (below_step (by repeat (first | exact Below.refl _ _ | apply below_drew1)) hb)); clear RS; have RS := T1_; clear T1_)); have T3 := Aside0.mk (below_step (w := w9) (by repeat (first | exact T3.out | exact TR.out | apply below_drew1)) hb); (try clear RK); have RK := Aside0.mk hr; clear hr; clear hb) | (go_at_call 40; (with_reducible refine (some_to (RW.out.below (below_step GD.out.bel (by repeat (first | exact T3.out | exact TR.out | apply below_drew1)))) LN.out (GD.out.rb.below (by repeat (first | exact T3.out | exact TR.out | apply below_drew1))) GD.out.lb LE.out).mono ?_); rintro e w3 ⟨AS, nS, cS, rfl, hr, hb⟩; (try (have T1_ := Aside0.mk (RI.out.below (below_step (by repeat (first | exact Below.refl _ _ | apply below_drew1)) hb)); clear RI; have RI := T1_; clear T1_)); (try (have T1_ := Aside0.mk (RK.out.below (below_step (by repeat (first | exact Below.refl _ _ | apply below_drew1)) hb)); clear RK; have RK := T1_; clear T1_)); (try (have T1_ := Aside0.mk (RS.out.below (below_step (by repeat (first | exact Below.refl _ _ | apply below_drew1)) hb)); clear RS; have RS := T1_; clear T1_)); have T3 := Aside0.mk (below_step (w := w9) (by repeat (first | exact T3.out | exact TR.out | apply below_drew1)) hb); (try clear RS); have RS := Aside0.mk hr; clear hr; clear hb) | (go_at_call 39; (with_reducible refine (ints23_is true (RI.out.below (by repeat (first | exact Below.refl _ _ | apply below_drew1))) (LI.out _ _ _ _ RI.out) (GD.out.rb.below (by repeat (first | exact T3.out | exact TR.out | apply below_drew1))) (decide_eq_true rfl)).mono ?_); rintro e w3 ⟨rfl, hb⟩; (try (have T1_ := Aside0.mk (RI.out.below (below_step (by repeat (first | exact Below.refl _ _ | apply below_drew1)) hb)); clear RI; have RI := T1_; clear T1_)); (try (have T1_ := Aside0.mk (RK.out.below (below_step (by repeat (first | exact Below.refl _ _ | apply below_drew1)) hb)); clear RK; have RK := T1_; clear T1_)); (try (have T1_ := Aside0.mk (RS.out.below (below_step (by repeat (first | exact Below.refl _ _ | apply below_drew1)) hb)); clear RS; have RS := T1_; clear T1_)); have T3 := Aside0.mk (below_step (w := w9) (by repeat (first | exact T3.out | exact TR.out | apply below_drew1)) hb); clear hb) | (go_at_call 39; (with_reducible refine (ints23_is true (RK.out.below (by repeat (first | exact Below.refl _ _ | apply below_drew1))) (LK.out _ _ _ _ RK.out) (RS.out.below (by repeat (first | exact Below.refl _ _ | apply below_drew1))) (decide_eq_true rfl)).mono ?_); rintro e w3 ⟨rfl, hb⟩; (try (have T1_ := Aside0.mk (RI.out.below (below_step (by repeat (first | exact Below.refl _ _ | apply below_drew1)) hb)); clear RI; have RI := T1_; clear T1_)); (try (have T1_ := Aside0.mk (RK.out.below (below_step (by repeat (first | exact Below.refl _ _ | apply below_drew1)) hb)); clear RK; have RK := T1_; clear T1_)); (try (have T1_ := Aside0.mk (RS.out.below (below_step (by repeat (first | exact Below.refl _ _ | apply below_drew1)) hb)); clear RS; have RS := T1_; clear T1_)); have T3 := Aside0.mk (below_step (w := w9) (by repeat (first | exact T3.out | exact TR.out | apply below_drew1)) hb); clear hb))
            all_goals go_wp2_with fail
            all_goals go_meet
            all_goals (case rel => exact ⟨rfl, (by repeat (first | exact T3.out | exact TR.out | apply below_drew1))⟩)
          case rest =>
            obtain ⟨rfl, hb⟩ := hcut
            have T1_ := Aside0.mk (GD.out.below hb)
            clear GD hb
            go_wp2_with fail
            go_roundw
            case rel => exact ⟨q + 1, left, inn2, gone2, B2, C2, m2, d2, p2, q2, by go_num, by omega, T1_.out, SX.out⟩
            case measure => simp [intOf]; omega
        · have k0 : (K == 0) = false := by simpa using hk0
          have k1 : decide (K = 0) = false := decide_eq_false hk0
          by_cases hk1 : K = 1
          · subst hk1
            have RCK := Aside0.mk (fun W (hW : Below wx.heap.size wx W) => rcame_is (av := fun k => k = t ∨ k = o) (need := need) (left := left) I true (RW.out.below (below_step GD.out.bel hW)) (GD.out.rb.below hW) (GD.out.rc.below hW) LN.out GD.out.lb GD.out.lc GD.out.vb GD.out.vc (fun k hk => Nat.lt_of_lt_of_le (Tl.al GD.out.tl k hk) hW.size))
            have SX2 := Aside0.mk (SX.out.came (who := who) (need := need) I true)
            have ACK := Aside0.mk (fun W (hW : Tl W (fun k => k = t ∨ k = o) t who inn gone need left) => gone_to2 I hW)
            unfold RCame at RCK
            generalize (if acode who inn gone need left I = 0 ∧ true = false then more inn I else inn) = inn2 at *
            generalize (if acode who inn gone need left I = 0 ∧ true = true then more gone I else gone) = gone2 at *
            generalize acode who inn gone need left I = cd at *
            have hcc : (cd != cd) = false := by simp
            go_upto_region 23 with (go_at_call 36; (with_reducible refine (RCK.out _ (Below.refl _ _)).mono ?_); rintro e w5 ⟨B2, m2, d2, C2, p2, q2, rfl, ⟨hrb, hlb, hvb⟩, ⟨hrc, hlc, hvc⟩, hb⟩; have G5 := Aside0.mk (GD.out.below hb); have A5 := Aside0.mk (blk_below AB.out hb); have RB2 := Aside0.mk hrb; have RC2 := Aside0.mk hrc; have LB2 := Aside0.mk hlb; have LC2 := Aside0.mk hlc; have VB2 := Aside0.mk hvb; have VC2 := Aside0.mk hvc; clear hrb hrc hlb hlc hvb hvc hb GD AB RCK x0 x1 x2 x3 x4 x5 x6 x7 x8 x9 a0 a1)
            have BY := below_alloc (Below.refl w5.heap.size w5) (.cells #[.slice A n c, .int .i64 need, .int .i64 left, .slice B2 m2 d2, .slice C2 p2 q2] 63)
            have YB := Aside0.mk (blk_new w5 (.cells #[.slice A n c, .int .i64 need, .int .i64 left, .slice B2 m2 d2, .slice C2 p2 q2] 63))
            have G6 := Aside0.mk (G5.out.below BY)
            have A6 := Aside0.mk (blk_below A5.out BY)
            have RB6 := Aside0.mk (RB2.out.below BY)
            have RC6 := Aside0.mk (RC2.out.below BY)
            clear BY G5 A5 RB2 RC2
            generalize w5.alloc (.cells #[.slice A n c, .int .i64 need, .int .i64 left, .slice B2 m2 d2, .slice C2 p2 q2] 63) = w6 at *
            obtain ⟨x0, x1, x2, x3, x4, x5, x6, x7, x8, x9⟩ := cs5_of G6.out.xb
            obtain ⟨y0, y1, y2, y3, y4, _⟩ := cs5_of YB.out
            go_upto_region 24 with (fail)
            obtain ⟨p1, p2', p3, p4, p5⟩ := Qd.put (A := A) (n := n) (c := c) (left2 := left) G6.out.tl ⟨_, _, _, _, _, G6.out.xb⟩ G6.out.bel OT.out OL.out RB6.out RC6.out VB2.out VC2.out _ rfl
            have P1 := Aside0.mk p1
            have P2 := Aside0.mk p2'
            have P3 := Aside0.mk p3
            have P4 := Aside0.mk p4
            have P5 := Aside0.mk p5
            have A7 := Aside0.mk (blk_grown A6.out (st5_below o w6 (.slice A n c) (.int .i64 need) (.int .i64 left) (.slice B2 m2 d2) (.slice C2 p2 q2)) NAO.out)
            clear p1 p2' p3 p4 p5 A6 G6 RB6 RC6 x0 x1 x2 x3 x4 x5 x6 x7 x8 x9 y0 y1 y2 y3 y4 YB
            generalize ((((w6.setCell ⟨o, 0, none⟩ (.slice A n c)).setCell ⟨o, 1, none⟩ (.int .i64 need)).setCell ⟨o, 2, none⟩ (.int .i64 left)).setCell ⟨o, 3, none⟩ (.slice B2 m2 d2)).setCell ⟨o, 4, none⟩ (.slice C2 p2 q2) = w7 at *
            obtain ⟨a0, a1⟩ := box65 A7.out
            go_upto_region 26 with (first | (go_at_call 29; (with_reducible refine (ACK.out _ P1.out).mono ?_); rintro e w8 ⟨rfl, hs, hg⟩; have GD := Aside0.mk (Qd.mk2 (Qd.went P2.out P5.out OT.out HL.out P3.out P4.out VB2.out VC2.out hs hg) LB2.out LC2.out VB2.out VC2.out); have A8 := Aside0.mk (blk_grown A7.out hg NAT.out); clear hs hg P1 P2 P3 P4 P5 A7 a0 a1; obtain ⟨a0, a1⟩ := box65 A8.out) | (go_at_call 27; (with_reducible refine (num_is _ _ (As.LaidG.below HG.out GD.out.bel)).mono ?_); rintro e w9 ⟨rfl, hb⟩; have T1_ := Aside0.mk (GD.out.below hb); clear GD; have GD := T1_; clear T1_; have A9 := Aside0.mk (blk_below A8.out hb); clear hb A8 a0 a1; obtain ⟨a0, a1⟩ := box65 A9.out))
            clear SX a0 a1 A9
            have SX := SX2
            clear SX2 ACK
            obtain ⟨s, hsv⟩ : ∃ s, st who inn2 gone2 need left = s := ⟨_, rfl⟩
            have SV := Aside0.mk hsv
            obtain ⟨L, hL⟩ : ∃ L, sel (pick 2 who inn2) = L := ⟨_, rfl⟩
            have LE := Aside0.mk hL
            have LK : Aside0 (∀ W A9 n9 c9, Rn W A9 n9 c9 L → n9 ≤ 1000) := ⟨fun W A9 n9 c9 h => by have h1 := h.len; have h2 := sel_len (pick 2 who inn2); rw [hL] at h2; omega⟩
            have LI : Aside0 (∀ W A9 n9 c9, Rn W A9 n9 c9 inn2 → n9 ≤ 1000) := ⟨fun W A9 n9 c9 h => by have h1 := h.len; have h2 := SX.out.i.len; omega⟩
            clear hsv hL
            have hss : (s != s) = false := by simp
            obtain ⟨x0, x1, x2, x3, x4, x5, x6, x7, x8, x9⟩ := cs5_of GD.out.xb
            have KC : Aside0 (∀ W, Below w9.heap.size w9 W → W.cell? ⟨o, 0, none⟩ = some (.slice A n c) ∧ W.cell? ⟨o, 1, none⟩ = some (.int .i64 need) ∧ W.cell? ⟨o, 2, none⟩ = some (.int .i64 left) ∧ W.cell? ⟨o, 3, none⟩ = some (.slice B2 m2 d2) ∧ W.cell? ⟨o, 4, none⟩ = some (.slice C2 p2 q2)) := ⟨fun W hW => by
              obtain ⟨y0, y1, y2, y3, y4, _⟩ := cs5_of (GD.out.below hW).xb
              exact ⟨y0, y1, y2, y3, y4⟩⟩
            go_upto_region 26 with (fail)
            go_cut [166] (fun v wc => v = .bool false ∧ Below w9.heap.size w9 wc)
            case first =>
              have TR := Aside0.mk (Below.refl w9.heap.size w9)
              go_region_held3 (fun W => W.cell? ⟨o, 0, none⟩ = some (.slice A n c) ∧ W.cell? ⟨o, 1, none⟩ = some (.int .i64 need) ∧ W.cell? ⟨o, 2, none⟩ = some (.int .i64 left) ∧ W.cell? ⟨o, 3, none⟩ = some (.slice B2 m2 d2) ∧ W.cell? ⟨o, 4, none⟩ = some (.slice C2 p2 q2))
                (first | exact KC.out _ (by repeat (first | exact T3.out | exact TR.out | apply below_drew1)))
                (first | (go_at_call 30; (with_reducible refine (state_is _ (GD.out.tl.below (by repeat (first | exact T3.out | exact TR.out | apply below_drew1))) SV.out).mono ?_); rintro e w3 ⟨rfl, hb⟩; (try (have T1_ := Aside0.mk (RI.out.below (below_step (by repeat (first | exact Below.refl _ _ | apply below_drew1)) hb)); clear RI; have RI := T1_; clear T1_)); (try (have T1_ := Aside0.mk (RK.out.below (below_step (by repeat (first | exact Below.refl _ _ | apply below_drew1)) hb)); clear RK; have RK := T1_; clear T1_)); (try (have T1_ := Aside0.mk (RS.out.below (below_step (by repeat (first | exact Below.refl _ _ | apply below_drew1)) hb)); clear RS; have RS := T1_; clear T1_)); have T3 := Aside0.mk (below_step (w := w9) (by repeat (first | exact T3.out | exact TR.out | apply below_drew1)) hb); clear hb) | (go_at_call 38; (with_reducible refine (rstate_is _ (RW.out.below (below_step GD.out.bel (by repeat (first | exact T3.out | exact TR.out | apply below_drew1)))) (GD.out.rb.below (by repeat (first | exact T3.out | exact TR.out | apply below_drew1))) (GD.out.rc.below (by repeat (first | exact T3.out | exact TR.out | apply below_drew1))) LN.out GD.out.lc SV.out).mono ?_); rintro e w3 ⟨rfl, hb⟩; (try (have T1_ := Aside0.mk (RI.out.below (below_step (by repeat (first | exact Below.refl _ _ | apply below_drew1)) hb)); clear RI; have RI := T1_; clear T1_)); (try (have T1_ := Aside0.mk (RK.out.below (below_step (by repeat (first | exact Below.refl _ _ | apply below_drew1)) hb)); clear RK; have RK := T1_; clear T1_)); (try (have T1_ := Aside0.mk (RS.out.below (below_step (by repeat (first | exact Below.refl _ _ | apply below_drew1)) hb)); clear RS; have RS := T1_; clear T1_)); have T3 := Aside0.mk (below_step (w := w9) (by repeat (first | exact T3.out | exact TR.out | apply below_drew1)) hb); clear hb) | (go_at_call 31; (with_reducible refine (in_is (GD.out.tl.below (by repeat (first | exact T3.out | exact TR.out | apply below_drew1))) SX.out.i).mono ?_); rintro e w3 ⟨AI, nI, cI, rfl, hr, hb⟩; (try (have T1_ := Aside0.mk (RI.out.below (below_step (by repeat (first | exact Below.refl _ _ | apply below_drew1)) hb)); clear RI; have RI := T1_; clear T1_)); (try (have T1_ := Aside0.mk (RK.out.below (below_step (by repeat (first | exact Below.refl _ _ | apply below_drew1)) hb)); clear RK; have RK := T1_; clear T1_)); (try (have T1_ := Aside0.mk (RS.out.below (below_step (by repeat (first | exact Below.refl _ _ | apply below_drew1)) hb)); clear RS; have RS := T1_; clear T1_)); have T3 := Aside0.mk (below_step (w := w9) (by repeat (first | exact T3.out | exact TR.out | apply below_drew1)) hb); (try clear RI); have RI := Aside0.mk hr; clear hr; clear hb) | (go_at_call 32; (with_reducible refine (lacks_to (GD.out.tl.below (by repeat (first | exact T3.out | exact TR.out | apply below_drew1))) LE.out).mono ?_); rintro e w3 ⟨AK, nK, cK, rfl, hr, hb⟩; (try (have T1_ := Aside0.mk (RI.out.below (below_step (by repeat (first | exact Below.refl _ _ | apply below_drew1)) hb)); clear RI; have RI := T1_; clear T1_)); (try (have T1_ := Aside0.mk (RK.out.below (below_step (by repeat (first | exact Below.refl _ _ | apply below_drew1)) hb)); clear RK; have RK := T1_; clear T1_)); (try (have T1_ := Aside0.mk (RS.out.below (below_step (by repeat (first | exact Below.refl _ _ | apply below_drew1)) hb)); clear RS; have RS := T1_; clear T1_)); have T3 := Aside0.mk (below_step (w := w9) (by repeat (first | exact T3.out | exact TR.out | apply below_drew1)) hb); (try clear RK); have RK := Aside0.mk hr; clear hr; clear hb) | (go_at_call 40; (with_reducible refine (some_to (RW.out.below (below_step GD.out.bel (by repeat (first | exact T3.out | exact TR.out | apply below_drew1)))) LN.out (GD.out.rb.below (by repeat (first | exact T3.out | exact TR.out | apply below_drew1))) GD.out.lb LE.out).mono ?_); rintro e w3 ⟨AS, nS, cS, rfl, hr, hb⟩; (try (have T1_ := Aside0.mk (RI.out.below (below_step (by repeat (first | exact Below.refl _ _ | apply below_drew1)) hb)); clear RI; have RI := T1_; clear T1_)); (try (have T1_ := Aside0.mk (RK.out.below (below_step (by repeat (first | exact Below.refl _ _ | apply below_drew1)) hb)); clear RK; have RK := T1_; clear T1_)); (try (have T1_ := Aside0.mk (RS.out.below (below_step (by repeat (first | exact Below.refl _ _ | apply below_drew1)) hb)); clear RS; have RS := T1_; clear T1_)); have T3 := Aside0.mk (below_step (w := w9) (by repeat (first | exact T3.out | exact TR.out | apply below_drew1)) hb); (try clear RS); have RS := Aside0.mk hr; clear hr; clear hb) | (go_at_call 39; (with_reducible refine (ints23_is true (RI.out.below (by repeat (first | exact Below.refl _ _ | apply below_drew1))) (LI.out _ _ _ _ RI.out) (GD.out.rb.below (by repeat (first | exact T3.out | exact TR.out | apply below_drew1))) (decide_eq_true rfl)).mono ?_); rintro e w3 ⟨rfl, hb⟩; (try (have T1_ := Aside0.mk (RI.out.below (below_step (by repeat (first | exact Below.refl _ _ | apply below_drew1)) hb)); clear RI; have RI := T1_; clear T1_)); (try (have T1_ := Aside0.mk (RK.out.below (below_step (by repeat (first | exact Below.refl _ _ | apply below_drew1)) hb)); clear RK; have RK := T1_; clear T1_)); (try (have T1_ := Aside0.mk (RS.out.below (below_step (by repeat (first | exact Below.refl _ _ | apply below_drew1)) hb)); clear RS; have RS := T1_; clear T1_)); have T3 := Aside0.mk (below_step (w := w9) (by repeat (first | exact T3.out | exact TR.out | apply below_drew1)) hb); clear hb) | (go_at_call 39; (with_reducible refine (ints23_is true (RK.out.below (by repeat (first | exact Below.refl _ _ | apply below_drew1))) (LK.out _ _ _ _ RK.out) (RS.out.below (by repeat (first | exact Below.refl _ _ | apply below_drew1))) (decide_eq_true rfl)).mono ?_); rintro e w3 ⟨rfl, hb⟩; (try (have T1_ := Aside0.mk (RI.out.below (below_step (by repeat (first | exact Below.refl _ _ | apply below_drew1)) hb)); clear RI; have RI := T1_; clear T1_)); (try (have T1_ := Aside0.mk (RK.out.below (below_step (by repeat (first | exact Below.refl _ _ | apply below_drew1)) hb)); clear RK; have RK := T1_; clear T1_)); (try (have T1_ := Aside0.mk (RS.out.below (below_step (by repeat (first | exact Below.refl _ _ | apply below_drew1)) hb)); clear RS; have RS := T1_; clear T1_)); have T3 := Aside0.mk (below_step (w := w9) (by repeat (first | exact T3.out | exact TR.out | apply below_drew1)) hb); clear hb))
              all_goals go_wp2_with fail
              all_goals go_meet
              all_goals (case rel => exact ⟨rfl, (by repeat (first | exact T3.out | exact TR.out | apply below_drew1))⟩)
            case rest =>
              obtain ⟨rfl, hb⟩ := hcut
              have T1_ := Aside0.mk (GD.out.below hb)
              clear GD hb
              go_wp2_with fail
              go_roundw
              case rel => exact ⟨q + 1, left, inn2, gone2, B2, C2, m2, d2, p2, q2, by go_num, by omega, T1_.out, SX.out⟩
              case measure => simp [intOf]; omega
          · have k2 : (K == 1) = false := by simpa using hk1
            have k3 : decide (K = 1) = false := decide_eq_false hk1
            clear hk0 hk1
            have hl0 := SX.out.l0
            have hl1 := SX.out.l1
            have TCK := Aside0.mk (fun W (hW : Tl W (fun k => k = t ∨ k = o) t who inn gone need left) => tick_is hW SX.out.l0 SX.out.l1)
            have RTK := Aside0.mk (fun W (hb : Rn W B1 m1 d1 inn) (hc : Rn W C1 p1 q1 gone) (hw : Below w.heap.size w W) => rtick_is (need := need) (left := left) (RW.out.below hw) hb hc LN.out GD.out.lc SX.out.l0 SX.out.l1)
            have SX2 := Aside0.mk (SX.out.tick (who := who) (need := need))
            unfold DidT at TCK
            generalize (if st who inn gone need left = 0 then left - 1 else left) = left2 at *
            clear hl0 hl1
            go_upto_region 26 with (first | (go_at_call 26; (with_reducible refine (TCK.out _ GD.out.tl).mono ?_); rintro e w5 ⟨rfl, hs, hg⟩; have QW := Aside0.mk (Qd.went GD.out.xb GD.out.bel OT.out HL.out GD.out.rb GD.out.rc GD.out.vb GD.out.vc hs hg); clear hs hg x0 x1 x2 x3 x4 x5 x6 x7 x8 x9; obtain ⟨x0, x1, x2, x3, x4, x5, x6, x7, x8, x9⟩ := cs5_of QW.out.2.1) | (go_at_call 37; (with_reducible refine (RTK.out _ QW.out.2.2.1 QW.out.2.2.2.1 QW.out.2.2.2.2).mono ?_); rintro e w6 ⟨rfl, hb⟩; have Q6 := Aside0.mk (qw_below QW.out hb); clear hb QW x0 x1 x2 x3 x4 x5 x6 x7 x8 x9; obtain ⟨x0, x1, x2, x3, x4, x5, x6, x7, x8, x9⟩ := cs5_of Q6.out.2.1))
            obtain ⟨p1', p2', p3, p4, p5⟩ := Qd.put (A := A) (n := n) (c := c) (left2 := left2) Q6.out.1 ⟨_, _, _, _, _, Q6.out.2.1⟩ Q6.out.2.2.2.2 OT.out OL.out Q6.out.2.2.1 Q6.out.2.2.2.1 GD.out.vb GD.out.vc _ rfl
            have G7 := Aside0.mk (Qd.mk2 (A := A) (n := n) (c := c) (need := need) (left2 := left2) ⟨p1', p2', p3, p4, p5⟩ GD.out.lb GD.out.lc GD.out.vb GD.out.vc)
            clear p1' p2' p3 p4 p5 Q6 GD x0 x1 x2 x3 x4 x5 x6 x7 x8 x9
            have GD := G7
            clear G7
            generalize ((((w6.setCell ⟨o, 0, none⟩ (.slice A n c)).setCell ⟨o, 1, none⟩ (.int .i64 need)).setCell ⟨o, 2, none⟩ (.int .i64 left2)).setCell ⟨o, 3, none⟩ (.slice B1 m1 d1)).setCell ⟨o, 4, none⟩ (.slice C1 p1 q1) = w9 at *
            clear SX TCK RTK a0 a1
            have SX := SX2
            clear SX2
            obtain ⟨s, hsv⟩ : ∃ s, st who inn gone need left2 = s := ⟨_, rfl⟩
            have SV := Aside0.mk hsv
            obtain ⟨L, hL⟩ : ∃ L, sel (pick 2 who inn) = L := ⟨_, rfl⟩
            have LE := Aside0.mk hL
            have LK : Aside0 (∀ W A9 n9 c9, Rn W A9 n9 c9 L → n9 ≤ 1000) := ⟨fun W A9 n9 c9 h => by have h1 := h.len; have h2 := sel_len (pick 2 who inn); rw [hL] at h2; omega⟩
            have LI : Aside0 (∀ W A9 n9 c9, Rn W A9 n9 c9 inn → n9 ≤ 1000) := ⟨fun W A9 n9 c9 h => by have h1 := h.len; have h2 := SX.out.i.len; omega⟩
            clear hsv hL
            have hss : (s != s) = false := by simp
            obtain ⟨x0, x1, x2, x3, x4, x5, x6, x7, x8, x9⟩ := cs5_of GD.out.xb
            have KC : Aside0 (∀ W, Below w9.heap.size w9 W → W.cell? ⟨o, 0, none⟩ = some (.slice A n c) ∧ W.cell? ⟨o, 1, none⟩ = some (.int .i64 need) ∧ W.cell? ⟨o, 2, none⟩ = some (.int .i64 left2) ∧ W.cell? ⟨o, 3, none⟩ = some (.slice B1 m1 d1) ∧ W.cell? ⟨o, 4, none⟩ = some (.slice C1 p1 q1)) := ⟨fun W hW => by
              obtain ⟨y0, y1, y2, y3, y4, _⟩ := cs5_of (GD.out.below hW).xb
              exact ⟨y0, y1, y2, y3, y4⟩⟩
            go_upto_region 26 with (fail)
            go_cut [166] (fun v wc => v = .bool false ∧ Below w9.heap.size w9 wc)
            case first =>
              have TR := Aside0.mk (Below.refl w9.heap.size w9)
              go_region_held3 (fun W => W.cell? ⟨o, 0, none⟩ = some (.slice A n c) ∧ W.cell? ⟨o, 1, none⟩ = some (.int .i64 need) ∧ W.cell? ⟨o, 2, none⟩ = some (.int .i64 left2) ∧ W.cell? ⟨o, 3, none⟩ = some (.slice B1 m1 d1) ∧ W.cell? ⟨o, 4, none⟩ = some (.slice C1 p1 q1))
                (first | exact KC.out _ (by repeat (first | exact T3.out | exact TR.out | apply below_drew1)))
                (first | (go_at_call 30; (with_reducible refine (state_is _ (GD.out.tl.below (by repeat (first | exact T3.out | exact TR.out | apply below_drew1))) SV.out).mono ?_); rintro e w3 ⟨rfl, hb⟩; (try (have T1_ := Aside0.mk (RI.out.below (below_step (by repeat (first | exact Below.refl _ _ | apply below_drew1)) hb)); clear RI; have RI := T1_; clear T1_)); (try (have T1_ := Aside0.mk (RK.out.below (below_step (by repeat (first | exact Below.refl _ _ | apply below_drew1)) hb)); clear RK; have RK := T1_; clear T1_)); (try (have T1_ := Aside0.mk (RS.out.below (below_step (by repeat (first | exact Below.refl _ _ | apply below_drew1)) hb)); clear RS; have RS := T1_; clear T1_)); have T3 := Aside0.mk (below_step (w := w9) (by repeat (first | exact T3.out | exact TR.out | apply below_drew1)) hb); clear hb) | (go_at_call 38; (with_reducible refine (rstate_is _ (RW.out.below (below_step GD.out.bel (by repeat (first | exact T3.out | exact TR.out | apply below_drew1)))) (GD.out.rb.below (by repeat (first | exact T3.out | exact TR.out | apply below_drew1))) (GD.out.rc.below (by repeat (first | exact T3.out | exact TR.out | apply below_drew1))) LN.out GD.out.lc SV.out).mono ?_); rintro e w3 ⟨rfl, hb⟩; (try (have T1_ := Aside0.mk (RI.out.below (below_step (by repeat (first | exact Below.refl _ _ | apply below_drew1)) hb)); clear RI; have RI := T1_; clear T1_)); (try (have T1_ := Aside0.mk (RK.out.below (below_step (by repeat (first | exact Below.refl _ _ | apply below_drew1)) hb)); clear RK; have RK := T1_; clear T1_)); (try (have T1_ := Aside0.mk (RS.out.below (below_step (by repeat (first | exact Below.refl _ _ | apply below_drew1)) hb)); clear RS; have RS := T1_; clear T1_)); have T3 := Aside0.mk (below_step (w := w9) (by repeat (first | exact T3.out | exact TR.out | apply below_drew1)) hb); clear hb) | (go_at_call 31; (with_reducible refine (in_is (GD.out.tl.below (by repeat (first | exact T3.out | exact TR.out | apply below_drew1))) SX.out.i).mono ?_); rintro e w3 ⟨AI, nI, cI, rfl, hr, hb⟩; (try (have T1_ := Aside0.mk (RI.out.below (below_step (by repeat (first | exact Below.refl _ _ | apply below_drew1)) hb)); clear RI; have RI := T1_; clear T1_)); (try (have T1_ := Aside0.mk (RK.out.below (below_step (by repeat (first | exact Below.refl _ _ | apply below_drew1)) hb)); clear RK; have RK := T1_; clear T1_)); (try (have T1_ := Aside0.mk (RS.out.below (below_step (by repeat (first | exact Below.refl _ _ | apply below_drew1)) hb)); clear RS; have RS := T1_; clear T1_)); have T3 := Aside0.mk (below_step (w := w9) (by repeat (first | exact T3.out | exact TR.out | apply below_drew1)) hb); (try clear RI); have RI := Aside0.mk hr; clear hr; clear hb) | (go_at_call 32; (with_reducible refine (lacks_to (GD.out.tl.below (by repeat (first | exact T3.out | exact TR.out | apply below_drew1))) LE.out).mono ?_); rintro e w3 ⟨AK, nK, cK, rfl, hr, hb⟩; (try (have T1_ := Aside0.mk (RI.out.below (below_step (by repeat (first | exact Below.refl _ _ | apply below_drew1)) hb)); clear RI; have RI := T1_; clear T1_)); (try (have T1_ := Aside0.mk (RK.out.below (below_step (by repeat (first | exact Below.refl _ _ | apply below_drew1)) hb)); clear RK; have RK := T1_; clear T1_)); (try (have T1_ := Aside0.mk (RS.out.below (below_step (by repeat (first | exact Below.refl _ _ | apply below_drew1)) hb)); clear RS; have RS := T1_; clear T1_)); have T3 := Aside0.mk (below_step (w := w9) (by repeat (first | exact T3.out | exact TR.out | apply below_drew1)) hb); (try clear RK); have RK := Aside0.mk hr; clear hr; clear hb) | (go_at_call 40; (with_reducible refine (some_to (RW.out.below (below_step GD.out.bel (by repeat (first | exact T3.out | exact TR.out | apply below_drew1)))) LN.out (GD.out.rb.below (by repeat (first | exact T3.out | exact TR.out | apply below_drew1))) GD.out.lb LE.out).mono ?_); rintro e w3 ⟨AS, nS, cS, rfl, hr, hb⟩; (try (have T1_ := Aside0.mk (RI.out.below (below_step (by repeat (first | exact Below.refl _ _ | apply below_drew1)) hb)); clear RI; have RI := T1_; clear T1_)); (try (have T1_ := Aside0.mk (RK.out.below (below_step (by repeat (first | exact Below.refl _ _ | apply below_drew1)) hb)); clear RK; have RK := T1_; clear T1_)); (try (have T1_ := Aside0.mk (RS.out.below (below_step (by repeat (first | exact Below.refl _ _ | apply below_drew1)) hb)); clear RS; have RS := T1_; clear T1_)); have T3 := Aside0.mk (below_step (w := w9) (by repeat (first | exact T3.out | exact TR.out | apply below_drew1)) hb); (try clear RS); have RS := Aside0.mk hr; clear hr; clear hb) | (go_at_call 39; (with_reducible refine (ints23_is true (RI.out.below (by repeat (first | exact Below.refl _ _ | apply below_drew1))) (LI.out _ _ _ _ RI.out) (GD.out.rb.below (by repeat (first | exact T3.out | exact TR.out | apply below_drew1))) (decide_eq_true rfl)).mono ?_); rintro e w3 ⟨rfl, hb⟩; (try (have T1_ := Aside0.mk (RI.out.below (below_step (by repeat (first | exact Below.refl _ _ | apply below_drew1)) hb)); clear RI; have RI := T1_; clear T1_)); (try (have T1_ := Aside0.mk (RK.out.below (below_step (by repeat (first | exact Below.refl _ _ | apply below_drew1)) hb)); clear RK; have RK := T1_; clear T1_)); (try (have T1_ := Aside0.mk (RS.out.below (below_step (by repeat (first | exact Below.refl _ _ | apply below_drew1)) hb)); clear RS; have RS := T1_; clear T1_)); have T3 := Aside0.mk (below_step (w := w9) (by repeat (first | exact T3.out | exact TR.out | apply below_drew1)) hb); clear hb) | (go_at_call 39; (with_reducible refine (ints23_is true (RK.out.below (by repeat (first | exact Below.refl _ _ | apply below_drew1))) (LK.out _ _ _ _ RK.out) (RS.out.below (by repeat (first | exact Below.refl _ _ | apply below_drew1))) (decide_eq_true rfl)).mono ?_); rintro e w3 ⟨rfl, hb⟩; (try (have T1_ := Aside0.mk (RI.out.below (below_step (by repeat (first | exact Below.refl _ _ | apply below_drew1)) hb)); clear RI; have RI := T1_; clear T1_)); (try (have T1_ := Aside0.mk (RK.out.below (below_step (by repeat (first | exact Below.refl _ _ | apply below_drew1)) hb)); clear RK; have RK := T1_; clear T1_)); (try (have T1_ := Aside0.mk (RS.out.below (below_step (by repeat (first | exact Below.refl _ _ | apply below_drew1)) hb)); clear RS; have RS := T1_; clear T1_)); have T3 := Aside0.mk (below_step (w := w9) (by repeat (first | exact T3.out | exact TR.out | apply below_drew1)) hb); clear hb))
              all_goals go_wp2_with fail
              all_goals go_meet
              all_goals (case rel => exact ⟨rfl, (by repeat (first | exact T3.out | exact TR.out | apply below_drew1))⟩)
            case rest =>
              obtain ⟨rfl, hb⟩ := hcut
              have T1_ := Aside0.mk (GD.out.below hb)
              clear GD hb
              go_wp2_with fail
              go_roundw
              case rel => exact ⟨q + 1, left2, inn, gone, B1, C1, m1, d1, p1, q1, by go_num, by omega, T1_.out, SX.out⟩
              case measure => simp [intOf]; omega
      · go_wp2_with (go_at_call 33; (with_reducible refine (sure23 _ (As.LaidG.below HG.out GD.out.bel)).mono ?_); rintro e ws ⟨rfl, hb⟩)
        go_ret
        exact ⟨rfl, below_step GD.out.bel hb⟩
    · go_wp2_with (go_at_call 33; (with_reducible refine (sure23 _ (As.LaidG.below HG.out GD.out.bel)).mono ?_); rintro e ws ⟨rfl, hb⟩)
      go_ret
      exact ⟨rfl, below_step GD.out.bel hb⟩
end Go.Proofs.YtfomajippdcaoaaDoor.Qu
