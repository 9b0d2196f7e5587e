/-
  The document's guard (caucusref26), walked; and the guard's own functions at nil.
-/
import Derived.Test.YtfomajippdcaoaaDoorGuardAny
namespace Go.Proofs.YtfomajippdcaoaaDoor.Gu
open Go.RowKit Go.Proofs.YtfomajippdcaoaaDoorW.PrintWords Go.Proofs.YtfomajippdcaoaaDoorW.PrintLast Go.Proofs.YtfomajippdcaoaaDoorW.PrintMore Go.Proofs.YtfomajippdcaoaaDoor.PSet Go.Proofs.YtfomajippdcaoaaDoor.Sc

theorem came_nil (w : World) : Calls Tryd.prog 20 #[.pointer none] w (Sc.Told (.tuple #[.slice none 0 0, .bool false]) w) := by
  go_enter Tryd.func20, Tryd.ntmps20
  go_wp2
  go_ret2
  exact ⟨rfl, Below.refl _ _⟩
theorem ask_nil (w : World) : Calls Tryd.prog 17 #[.pointer none, .slice none 0 0] w (Sc.Told (.iface 75 (.int .i64 1)) w) := by
  go_enter Tryd.func17, Tryd.ntmps17
  go_wp2
  go_ret
  exact ⟨rfl, Below.refl _ _⟩
theorem out_nil (w : World) : Calls Tryd.prog 18 #[.pointer none, .int .i64 1] w (Sc.Told (.int .i64 0) w) := by
  go_enter Tryd.func18, Tryd.ntmps18
  go_wp2
  go_ret
  exact ⟨rfl, Below.refl _ _⟩

/-- the document's guard, as a block and as a value -/
def GX (A B : Option Addr) (n c m d : Nat) (need : Int) (is : Bool) : Array Value := #[.slice A n c, .int .i64 need, .slice B m d, .bool is]
theorem gx_cells {w : World} {o : Nat} {A B : Option Addr} {n c m d : Nat} {need : Int} {is : Bool} (h : w.heap[o]? = some (.cells (GX A B n c m d need is) 46 (0, 0))) :
    w.cell? ⟨o, 0, none⟩ = some (.slice A n c) ∧ w.cell? ⟨o, 1, none⟩ = some (.int .i64 need) ∧ w.cell? ⟨o, 2, none⟩ = some (.slice B m d) ∧ w.cell? ⟨o, 3, none⟩ = some (.bool is) ∧ (∀ j, w.frozen? ⟨o, j, none⟩ = false) := by
  unfold GX at h
  simp [World.cell?, World.frozen?, h]

set_option maxRecDepth 100000 in
set_option maxHeartbeats 1000000 in
theorem rout_is (A B : Option Addr) (n c m d : Nat) (need : Int) (is : Bool) (who came : List Int) (id v : Int) (w : World) (ha : Rn w A n c who) (hb : Rn w B m d came) (hn : n ≤ 1000) (hm : m ≤ 1000) (hv : outV who came is id = v) :
    Calls Tryd.prog 25 #[.agg (GX A B n c m d need is), .int .i64 id] w (Sc.Told (.int .i64 v) w) := by
  unfold GX
  have RA := Aside0.mk ha
  have RB := Aside0.mk hb
  have LA := Aside0.mk hn
  have LB := Aside0.mk hm
  clear ha hb hn hm
  unfold outV at hv
  cases is with
  | false =>
    rw [if_pos rfl] at hv
    subst hv
    go_enter Tryd.func25, Tryd.ntmps25
    go_wp2_with fail
    go_ret
    exact ⟨rfl, below_alloc (Below.refl _ _) _⟩
  | true =>
    rw [if_neg (by decide)] at hv
    obtain ⟨b1, hb1⟩ : ∃ b, decide (0 ≤ id ∧ id < 64 ∧ id ∈ who) = b := ⟨_, rfl⟩
    obtain ⟨b2, hb2⟩ : ∃ b, decide (0 ≤ id ∧ id < 64 ∧ id ∈ came) = b := ⟨_, rfl⟩
    rw [hb1, hb2] at hv
    have H1 := Aside0.mk hb1
    have H2 := Aside0.mk hb2
    clear hb1 hb2
    have Z0 : Aside0 (Below w.heap.size w (w.alloc (.cells #[.slice A n c, .int .i64 need, .slice B m d, .bool true] 46))) := ⟨below_alloc (Below.refl _ _) _⟩
    have ZB : Aside0 ((w.alloc (.cells #[.slice A n c, .int .i64 need, .slice B m d, .bool true] 46)).heap[w.heap.size]? = some (.cells (GX A B n c m d need true) 46 (0, 0))) := ⟨blk_new _ _⟩
    go_enter Tryd.func25, Tryd.ntmps25
    go_upto_region 1 with (fail)
    generalize w.alloc (.cells #[.slice A n c, .int .i64 need, .slice B m d, .bool true] 46) = wb at *
    obtain ⟨d0, d1, d2, d3, _⟩ := gx_cells ZB.out
    cases b1 with
    | false =>
      rw [if_pos rfl] at hv
      subst hv
      go_wp2_with (go_at_call 19; (with_reducible refine (hasr_is false _ (RA.out.below Z0.out) LA.out H1.out).mono ?_); rintro e w1 ⟨rfl, hb⟩)
      go_ret
      exact ⟨rfl, below_step Z0.out hb⟩
    | true =>
      rw [if_neg (by decide)] at hv
      cases b2 with
      | false =>
        rw [if_neg (by decide)] at hv
        subst hv
        go_wp2_with (first | (go_at_call 19; (with_reducible refine (hasr_is true _ (RA.out.below Z0.out) LA.out H1.out).mono ?_); rintro e w1 ⟨rfl, hb⟩; have Z1 := Aside0.mk (below_step Z0.out hb); have B1 := Aside0.mk (blk_below ZB.out hb); clear hb d0 d1 d2 d3; obtain ⟨d0, d1, d2, d3, _⟩ := gx_cells B1.out) | (go_at_call 19; (with_reducible refine (hasr_is false _ (RB.out.below Z1.out) LB.out H2.out).mono ?_); rintro e w2 ⟨rfl, hb⟩))
        go_ret
        exact ⟨rfl, below_step Z1.out hb⟩
      | true =>
        rw [if_pos rfl] at hv
        subst hv
        go_wp2_with (first | (go_at_call 19; (with_reducible refine (hasr_is true _ (RA.out.below Z0.out) LA.out H1.out).mono ?_); rintro e w1 ⟨rfl, hb⟩; have Z1 := Aside0.mk (below_step Z0.out hb); have B1 := Aside0.mk (blk_below ZB.out hb); clear hb d0 d1 d2 d3; obtain ⟨d0, d1, d2, d3, _⟩ := gx_cells B1.out) | (go_at_call 19; (with_reducible refine (hasr_is true _ (RB.out.below Z1.out) LB.out H2.out).mono ?_); rintro e w2 ⟨rfl, hb⟩))
        go_ret
        exact ⟨rfl, below_step Z1.out hb⟩
/-! ### the document's Ask -/
structure Bx (w0 w : World) (X Y : Array Value) : Prop where
  box : w.heap[w0.heap.size]? = some (.cells X 46 (0, 0))
  res : w.heap[w0.heap.size + 1]? = some (.cells Y 46 (0, 0))
  bel : Below w0.heap.size w0 w
theorem Bx.below {w0 w w1 : World} {X Y : Array Value} (h : Bx w0 w X Y) (hb : Below w.heap.size w w1) : Bx w0 w1 X Y := ⟨blk_below h.box hb, blk_below h.res hb, below_step h.bel hb⟩
theorem Bx.new (w : World) (X Y : Array Value) : Bx w ((w.alloc (.cells X 46)).alloc (.cells Y 46)) X Y := by
  refine ⟨?_, ?_, below_alloc (below_alloc (Below.refl _ _) _) _⟩
  · show ((w.heap.push (.cells X 46 (0, 0))).push _)[w.heap.size]? = _
    rw [Array.getElem?_push, if_neg (by simp), Array.getElem?_push, if_pos (by simp)]
  · show ((w.heap.push (.cells X 46 (0, 0))).push (.cells Y 46 (0, 0)))[w.heap.size + 1]? = _
    rw [Array.getElem?_push, if_pos (by simp)]
def GX0 : Array Value := #[.slice none 0 0, .int .i64 0, .slice none 0 0, .bool false]

theorem Bx.store {w0 w : World} {X : Array Value} {x0 x1 x2 x3 : Value} {A B : Option Addr} {n c m d : Nat} {need : Int} {is : Bool} (h : Bx w0 w X (GX A B n c m d need is)) :
    Bx w0 ((((w.setCell ⟨w0.heap.size + 1, 0, none⟩ x0).setCell ⟨w0.heap.size + 1, 1, none⟩ x1).setCell ⟨w0.heap.size + 1, 2, none⟩ x2).setCell ⟨w0.heap.size + 1, 3, none⟩ x3) X #[x0, x1, x2, x3] := by
  have hs : ∀ (W : World) (j : Nat) (v : Value), (W.setCell ⟨w0.heap.size + 1, j, none⟩ v).heap[w0.heap.size]? = W.heap[w0.heap.size]? := fun W j v => Below.heap_setCell W _ _ _ (by show w0.heap.size ≠ w0.heap.size + 1; omega)
  refine ⟨(hs _ _ _).trans ((hs _ _ _).trans ((hs _ _ _).trans ((hs _ _ _).trans h.box))), blk_set (blk_set (blk_set (blk_set h.res 0 x0) 1 x1) 2 x2) 3 x3, ?_⟩
  have hb : ∀ {W : World} (j : Nat) (v : Value), Below w0.heap.size w0 W → Below w0.heap.size w0 (W.setCell ⟨w0.heap.size + 1, j, none⟩ v) := fun j v h => h.setCell (p := ⟨w0.heap.size + 1, j, none⟩) (by show w0.heap.size ≤ w0.heap.size + 1; omega) _
  exact hb _ _ (hb _ _ (hb _ _ (hb _ _ h.bel)))
theorem Bx.mark {w0 w : World} {Y : Array Value} {A B C : Option Addr} {n c m d p q : Nat} {need : Int} {is : Bool} (h : Bx w0 w (GX A B n c m d need is) Y) :
    Bx w0 ((w.setCell ⟨w0.heap.size, 2, none⟩ (.slice C p q)).setCell ⟨w0.heap.size, 3, none⟩ (.bool true)) (GX A C n c p q need true) Y := by
  have hs : ∀ (W : World) (j : Nat) (v : Value), (W.setCell ⟨w0.heap.size, j, none⟩ v).heap[w0.heap.size + 1]? = W.heap[w0.heap.size + 1]? := fun W j v => Below.heap_setCell W _ _ _ (by show w0.heap.size + 1 ≠ w0.heap.size; omega)
  refine ⟨blk_set (blk_set h.box 2 (.slice C p q)) 3 (.bool true), (hs _ _ _).trans ((hs _ _ _).trans h.res), ?_⟩
  have hb : ∀ {W : World} (j : Nat) (v : Value), Below w0.heap.size w0 W → Below w0.heap.size w0 (W.setCell ⟨w0.heap.size, j, none⟩ v) := fun j v h => h.setCell (p := ⟨w0.heap.size, j, none⟩) (Nat.le_refl _) _
  exact hb _ _ (hb _ _ h.bel)
theorem Bx.cells {w0 w : World} {A B A2 B2 : Option Addr} {n c m d n2 c2 m2 d2 : Nat} {need need2 : Int} {is is2 : Bool} (h : Bx w0 w (GX A B n c m d need is) (GX A2 B2 n2 c2 m2 d2 need2 is2)) :
    w.cell? ⟨w0.heap.size, 0, none⟩ = some (.slice A n c) ∧ w.cell? ⟨w0.heap.size, 1, none⟩ = some (.int .i64 need) ∧ w.cell? ⟨w0.heap.size, 2, none⟩ = some (.slice B m d) ∧ w.cell? ⟨w0.heap.size, 3, none⟩ = some (.bool is) ∧ w.frozen? ⟨w0.heap.size, 2, none⟩ = false ∧ w.frozen? ⟨w0.heap.size, 3, none⟩ = false ∧
    w.cell? ⟨w0.heap.size + 1, 0, none⟩ = some (.slice A2 n2 c2) ∧ w.cell? ⟨w0.heap.size + 1, 1, none⟩ = some (.int .i64 need2) ∧ w.cell? ⟨w0.heap.size + 1, 2, none⟩ = some (.slice B2 m2 d2) ∧ w.cell? ⟨w0.heap.size + 1, 3, none⟩ = some (.bool is2) ∧ w.frozen? ⟨w0.heap.size + 1, 0, none⟩ = false ∧ w.frozen? ⟨w0.heap.size + 1, 1, none⟩ = false ∧ w.frozen? ⟨w0.heap.size + 1, 2, none⟩ = false ∧ w.frozen? ⟨w0.heap.size + 1, 3, none⟩ = false := by
  obtain ⟨d0, d1, d2, d3, d4⟩ := gx_cells h.box
  obtain ⟨e0, e1, e2, e3, e4⟩ := gx_cells h.res
  exact ⟨d0, d1, d2, d3, d4 2, d4 3, e0, e1, e2, e3, e4 0, e4 1, e4 2, e4 3⟩
theorem rask_res {tmps : Array Value} {w0 w : World} {X : Array Value} {A B : Option Addr} {n c m d : Nat} {need code : Int} {is : Bool} (h4 : tmps.getD 4 undef = .pointer (some ⟨w0.heap.size + 1, 0, none⟩)) (h5 : tmps.getD 5 undef = .int .i64 code) (h : Bx w0 w X (GX A B n c m d need is)) :
    (results Tryd.f23 tmps).run Tryd.prog w = .ok (.tuple #[.agg (GX A B n c m d need is), .int .i64 code]) w := by
  obtain ⟨e0, e1, e2, e3, _⟩ := gx_cells h.res
  unfold GX
  simp only [Array.getD_eq_getD_getElem?] at h4 h5
  simp [results, Tryd.results23, go_sem, h4, h5, e0, e1, e2, e3]

/-- what the document's Ask tells -/
def RAsked (A B C : Option Addr) (n c m d p q : Nat) (need : Int) (is : Bool) (who came l : List Int) (w : World) (e : Ending) (w' : World) : Prop :=
  e = .returned (.tuple #[.agg (if askC who need came is l = 0 then GX A C n c p q need true else GX A B n c m d need is), .int .i64 (askC who need came is l)]) ∧ Below w.heap.size w w'
theorem rasked_no {tmps : Array Value} {A B C : Option Addr} {n c m d p q : Nat} {need code : Int} {is : Bool} {who came l : List Int} {w w' : World} {X : Array Value} (h4 : tmps.getD 4 undef = .pointer (some ⟨w.heap.size + 1, 0, none⟩)) (h5 : tmps.getD 5 undef = .int .i64 code) (h : Bx w w' X (GX A B n c m d need is)) (hc : askC who need came is l = code) (h0 : code ≠ 0) :
    bodyPost Tryd.prog Tryd.f23 (RAsked A B C n c m d p q need is who came l w) .ret { tmps := tmps, defers := [] } w' :=
  bodyPost_ret (rask_res h4 h5 h) rfl ⟨by rw [hc, if_neg h0], h.bel⟩
theorem rasked_yes {tmps : Array Value} {A B C : Option Addr} {n c m d p q : Nat} {need : Int} {is : Bool} {who came l : List Int} {w w' : World} {X : Array Value} (h4 : tmps.getD 4 undef = .pointer (some ⟨w.heap.size + 1, 0, none⟩)) (h5 : tmps.getD 5 undef = .int .i64 0) (h : Bx w w' X (GX A C n c p q need true)) (hc : askC who need came is l = 0) :
    bodyPost Tryd.prog Tryd.f23 (RAsked A B C n c m d p q need is who came l w) .ret { tmps := tmps, defers := [] } w' :=
  bodyPost_ret (rask_res h4 h5 h) rfl ⟨by rw [hc, if_pos rfl], h.bel⟩

theorem row_cell {w : World} {A : Option Addr} {n c : Nat} {l : List Int} (h : Rn w A n c l) (j : Nat) (hj : j < n) : ∃ ad, A = some ad ∧ w.cell? (ad.add j) = some (.int .i64 (l.getD j 0)) := by
  obtain ⟨_, _, h3⟩ := Kd.reads_of_C (d := (0 : Int)) h.c
  obtain ⟨ad, e, hc⟩ := h3 (by omega)
  exact ⟨ad, e, hc j hj⟩

set_option maxRecDepth 100000 in
set_option maxHeartbeats 1000000 in
theorem rask_is (A B C : Option Addr) (n c m d p q : Nat) (need : Int) (is : Bool) (who came l : List Int) (w : World) (ha : Rn w A n c who) (hb : Rn w B m d came) (hc : Rn w C p q l) (hn : n ≤ 1000) (hm : m ≤ 1000) (hp : p ≤ 1000) :
    Calls Tryd.prog 23 #[.agg (GX A B n c m d need is), .slice C p q] w (RAsked A B C n c m d p q need is who came l w) := by
  rw [show (Value.agg (GX A B n c m d need is)) = .agg #[.slice A n c, .int .i64 need, .slice B m d, .bool is] from rfl]
  have RA := Aside0.mk ha
  have RB := Aside0.mk hb
  have RC := Aside0.mk hc
  have LA := Aside0.mk hn
  have LB := Aside0.mk hm
  have LC := Aside0.mk hp
  clear ha hb hc hn hm hp
  have Z0 : Aside0 (Bx w ((w.alloc (.cells #[.slice A n c, .int .i64 need, .slice B m d, .bool is] 46)).alloc (.cells #[.slice none 0 0, .int .i64 0, .slice none 0 0, .bool false] 46)) (GX A B n c m d need is) (GX none none 0 0 0 0 0 false)) := ⟨Bx.new _ _ _⟩
  go_enter Tryd.func23, Tryd.ntmps23
  go_upto_region 1 with (fail)
  generalize (w.alloc (.cells #[.slice A n c, .int .i64 need, .slice B m d, .bool is] 46)).alloc (.cells #[.slice none 0 0, .int .i64 0, .slice none 0 0, .bool false] 46) = wb at *
  cases hi : inc (-1) l with
  | false =>
    have HI := Aside0.mk hi
    clear hi
    go_wp2_with (go_at_call 22; (with_reducible refine (may_is false (RC.out.below Z0.out.bel) LC.out HI.out).mono ?_); rintro e w1 ⟨rfl, hb⟩; have Z1 := Aside0.mk (Z0.out.below hb); clear hb; obtain ⟨d0, d1, d2, d3, d4, d5, e0, e1, e2, e3, e4, e5, e6, e7⟩ := Z1.out.cells)
    exact rasked_no rfl rfl Z1.out.store (by rw [askC, if_pos HI.out]) (by decide)
  | true =>
    have HI := Aside0.mk hi
    clear hi
    go_wp2_with (go_at_call 22; (with_reducible refine (may_is true (RC.out.below Z0.out.bel) LC.out HI.out).mono ?_); rintro e w1 ⟨rfl, hb⟩; have Z1 := Aside0.mk (Z0.out.below hb); clear hb)
    go_loopw [6] (fun i wr => ∃ j : Nat, i = .int .i64 j ∧ j ≤ p ∧ Aside0 (∀ x ∈ l.take j, x ∈ who) ∧ Bx w wr (GX A B n c m d need is) (GX none none 0 0 0 0 0 false)) (fun i _ => p - (intOf i).toNat)
    case atStart => exact ⟨0, rfl, by omega, ⟨by simp⟩, Z1.out⟩
    case round =>
      clear Z0 Z1
      obtain ⟨j, rfl, hj, HT, hz⟩ := hrel
      have Z1 := Aside0.mk hz
      clear hz
      obtain ⟨d0, d1, d2, d3, d4, d5, e0, e1, e2, e3, e4, e5, e6, e7⟩ := Z1.out.cells
      by_cases hlt : (j : Int) < (p : Int)
      · obtain ⟨ad, rfl, hcell⟩ := row_cell (RC.out.below Z1.out.bel) j (by omega)
        have hx : l.getD j 0 ∈ l := by
          have : j < l.length := by have := RC.out.len; omega
          rw [List.getD_eq_getElem?_getD, List.getElem?_eq_getElem this]
          exact List.getElem_mem _
        have htk : l.take (j + 1) = l.take j ++ [l.getD j 0] := by
          have : j < l.length := by have := RC.out.len; omega
          rw [List.take_add_one, List.getD_eq_getElem?_getD, List.getElem?_eq_getElem this]
          rfl
        have HX := Aside0.mk hx
        have HTK := Aside0.mk htk
        clear hx htk
        generalize l.getD j 0 = x at *
        have HR := inc_ge l (-1) x HI.out HX.out
        have hjs : (j : Int) < 1000 := by have := LC.out; omega
        by_cases hmem : x ∈ who
        · have HM : Aside0 (decide (0 ≤ x ∧ x < 64 ∧ x ∈ who) = true) := ⟨decide_eq_true ⟨by omega, by omega, hmem⟩⟩
          have HN : Aside0 (∀ y ∈ l.take (j + 1), y ∈ who) := ⟨fun y hy => by
            rw [HTK.out] at hy
            rcases List.mem_append.1 hy with h | h
            · exact HT.out y h
            · rw [List.mem_singleton.1 h]; exact hmem⟩
          clear hmem HR
          go_upto_region 6 with (fail)
          go_region_with (go_at_call 19; (with_reducible refine (hasr_is true _ (RA.out.below (by first | exact Z1.out.bel | exact below_drew Z1.out.bel)) LA.out HM.out).mono ?_); rintro e w2 ⟨rfl, hb⟩; have Z2 := Aside0.mk ((show Bx w _ _ _ from (by first | exact Z1.out | exact Z1.out.below (below_drew (Below.refl _ _)))).below hb); clear hb)
          all_goals go_wp2_with fail
          all_goals (go_roundw; (case rel => exact ⟨j + 1, by go_num, by omega, HN, Z2.out⟩); (case measure => simp [intOf]; omega))
        · have HM : Aside0 (decide (0 ≤ x ∧ x < 64 ∧ x ∈ who) = false) := ⟨decide_eq_false (fun h => hmem h.2.2)⟩
          have HN : Aside0 (¬ ∀ y ∈ l, y ∈ who) := ⟨fun h => hmem (h x HX.out)⟩
          clear hmem HR
          go_upto_region 6 with (fail)
          go_region_with (go_at_call 19; (with_reducible refine (hasr_is false _ (RA.out.below (by first | exact Z1.out.bel | exact below_drew Z1.out.bel)) LA.out HM.out).mono ?_); rintro e w2 ⟨rfl, hb⟩; have Z2 := Aside0.mk ((show Bx w _ _ _ from (by first | exact Z1.out | exact Z1.out.below (below_drew (Below.refl _ _)))).below hb); clear hb; clear d0 d1 d2 d3 d4 d5 e0 e1 e2 e3 e4 e5 e6 e7; obtain ⟨d0, d1, d2, d3, d4, d5, e0, e1, e2, e3, e4, e5, e6, e7⟩ := Z2.out.cells)
          all_goals go_wp2_with fail
          all_goals exact rasked_no rfl rfl Z2.out.store (by rw [askC, if_neg (by rw [HI.out]; decide), if_neg HN.out]) (by decide)
      · have HN : Aside0 (∀ y ∈ l, y ∈ who) := ⟨fun y hy => HT.out y (by rw [List.take_of_length_le (by have := RC.out.len; omega)]; exact hy)⟩
        have HI2 : Aside0 (¬ inc (-1) l = false) := ⟨by rw [HI.out]; decide⟩
        have HL := RC.out.len
        by_cases hf : (p : Int) < need
        · have HC : Aside0 (askC who need came is l = 7) := ⟨by rw [askC, if_neg HI2.out, if_pos HN.out, if_pos (by omega)]⟩
          clear HL
          go_wp2_with fail
          exact rasked_no rfl rfl Z1.out.store HC.out (by decide)
        · cases is with
          | false =>
            have HC : Aside0 (askC who need came false l = 0) := ⟨by rw [askC, if_neg HI2.out, if_pos HN.out, if_neg (by omega), if_neg (fun h => by cases h.1)]⟩
            clear HL
            go_upto_region 13 with (fail)
            have HW := Aside0.mk (@Bx.mark _ _ _ _ _ C _ _ _ _ p q _ _ Z1.out)
            clear d0 d1 d2 d3 d4 d5 e0 e1 e2 e3 e4 e5 e6 e7
            obtain ⟨d0, d1, d2, d3, d4, d5, e0, e1, e2, e3, e4, e5, e6, e7⟩ := HW.out.cells
            generalize (wr.setCell ⟨w.heap.size, 2, none⟩ (.slice C p q)).setCell ⟨w.heap.size, 3, none⟩ (.bool true) = w4 at *
            go_wp2_with fail
            exact rasked_yes rfl rfl HW.out.store HC.out
          | true =>
            by_cases he : came = l
            · have HC : Aside0 (askC who need came true l = 0) := ⟨by rw [askC, if_neg HI2.out, if_pos HN.out, if_neg (by omega), if_neg (fun h => h.2 he.symm)]⟩
              have HE := Aside0.mk (decide_eq_true he)
              clear HL he
              go_upto_region 13 with (go_at_call 48; (with_reducible refine (same26_is true (RB.out.below Z1.out.bel) LB.out (RC.out.below Z1.out.bel) HE.out).mono ?_); rintro e w2 ⟨rfl, hb⟩; have Z2 := Aside0.mk (Z1.out.below hb); clear hb; clear d0 d1 d2 d3 d4 d5 e0 e1 e2 e3 e4 e5 e6 e7; obtain ⟨d0, d1, d2, d3, d4, d5, e0, e1, e2, e3, e4, e5, e6, e7⟩ := Z2.out.cells)
              have HW := Aside0.mk (@Bx.mark _ _ _ _ _ C _ _ _ _ p q _ _ Z2.out)
              clear d0 d1 d2 d3 d4 d5 e0 e1 e2 e3 e4 e5 e6 e7
              obtain ⟨d0, d1, d2, d3, d4, d5, e0, e1, e2, e3, e4, e5, e6, e7⟩ := HW.out.cells
              generalize (w2.setCell ⟨w.heap.size, 2, none⟩ (.slice C p q)).setCell ⟨w.heap.size, 3, none⟩ (.bool true) = w4 at *
              go_wp2_with fail
              exact rasked_yes rfl rfl HW.out.store HC.out
            · have HC : Aside0 (askC who need came true l = 12) := ⟨by rw [askC, if_neg HI2.out, if_pos HN.out, if_neg (by omega), if_pos ⟨rfl, fun h => he h.symm⟩]⟩
              have HE := Aside0.mk (decide_eq_false he)
              clear HL he
              go_wp2_with (go_at_call 48; (with_reducible refine (same26_is false (RB.out.below Z1.out.bel) LB.out (RC.out.below Z1.out.bel) HE.out).mono ?_); rintro e w2 ⟨rfl, hb⟩; have Z2 := Aside0.mk (Z1.out.below hb); clear hb; clear d0 d1 d2 d3 d4 d5 e0 e1 e2 e3 e4 e5 e6 e7; obtain ⟨d0, d1, d2, d3, d4, d5, e0, e1, e2, e3, e4, e5, e6, e7⟩ := Z2.out.cells)
              exact rasked_no rfl rfl Z2.out.store HC.out (by decide)
end Go.Proofs.YtfomajippdcaoaaDoor.Gu
