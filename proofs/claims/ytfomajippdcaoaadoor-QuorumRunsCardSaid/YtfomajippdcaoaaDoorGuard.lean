/-
  The guard's own functions, walked: what each answers, and what becomes of the guard.
-/
import Derived.Test.YtfomajippdcaoaaDoorSetCalls
namespace Go.Proofs.YtfomajippdcaoaaDoor.Gu
open Go.RowKit Go.Proofs.YtfomajippdcaoaaDoorW.PrintWords Go.Proofs.YtfomajippdcaoaaDoorW.PrintLast Go.Proofs.YtfomajippdcaoaaDoorW.PrintMore Go.Proofs.YtfomajippdcaoaaDoor.PSet Go.Proofs.YtfomajippdcaoaaDoor.Sc

/-- a guard in memory -/
def GO (A B : Option Addr) (n c m d : Nat) (need : Int) (is : Bool) : Obj := .cells #[.slice A n c, .int .i64 need, .slice B m d, .bool is] 80 (0, 0)
structure St0 (w : World) (g : Nat) (A B : Option Addr) (n c m d : Nat) (who : List Int) (need : Int) (came : List Int) (is : Bool) : Prop where
  blk : w.heap[g]? = some (GO A B n c m d need is)
  who : Rn w A n c who
  came : Rn w B m d came
  a : 0 < n → ∀ ad, A = some ad → ad.block ≠ g
  b : 0 < m → ∀ ad, B = some ad → ad.block ≠ g
  n : n ≤ 1000
  m : m ≤ 1000
def St (w : World) (g : Nat) (who : List Int) (need : Int) (came : List Int) (is : Bool) : Prop := ∃ A B n c m d, St0 w g A B n c m d who need came is

theorem St0.below {w w1 : World} {g : Nat} {A B : Option Addr} {n c m d : Nat} {who : List Int} {need : Int} {came : List Int} {is : Bool} (h : St0 w g A B n c m d who need came is) (hb : Below w.heap.size w w1) : St0 w1 g A B n c m d who need came is :=
  ⟨blk_below h.blk hb, h.who.below hb, h.came.below hb, h.a, h.b, h.n, h.m⟩
theorem St.below {w w1 : World} {g : Nat} {who : List Int} {need : Int} {came : List Int} {is : Bool} (h : St w g who need came is) (hb : Below w.heap.size w w1) : St w1 g who need came is := by
  obtain ⟨A, B, n, c, m, d, h⟩ := h
  exact ⟨A, B, n, c, m, d, h.below hb⟩
theorem cells_of {w : World} {g : Nat} {A B : Option Addr} {n c m d : Nat} {need : Int} {is : Bool} (h : w.heap[g]? = some (GO A B n c m d need is)) :
    w.cell? ⟨g, 0, none⟩ = some (.slice A n c) ∧ w.cell? ⟨g, 1, none⟩ = some (.int .i64 need) ∧ w.cell? ⟨g, 2, none⟩ = some (.slice B m d) ∧ w.cell? ⟨g, 3, none⟩ = some (.bool is) ∧ w.frozen? ⟨g, 2, none⟩ = false ∧ w.frozen? ⟨g, 3, none⟩ = false := by
  unfold GO at h
  simp [World.cell?, World.frozen?, h]

set_option maxRecDepth 100000 in
theorem new_ok {A : Option Addr} {n c : Nat} {l : List Int} {w : World} (need : Int) (h : Rn w A n c l) (hn : n ≤ 1000) (hi : inc (-1) l = true) (h1 : 1 ≤ need) (h2 : need ≤ n) :
    Calls Tryd.prog 16 #[.slice A n c, .int .i64 need] w fun e w' => ∃ g, e = .returned (.tuple #[.pointer (some ⟨g, 0, none⟩), .nilIface]) ∧ St w' g l need [] false ∧ Below w.heap.size w w' ∧ w.heap.size ≤ g := by
  have H := Aside0.mk h
  have HN := Aside0.mk hn
  have HI := Aside0.mk hi
  clear h hn hi
  have q1 : decide (need < 1) = false := decide_eq_false (by omega)
  have q2 : decide ((n : Int) < need) = false := decide_eq_false (by omega)
  go_enter Tryd.func16, Tryd.ntmps16
  go_wp2_with (go_at_call 42; (with_reducible refine (check_ok H.out HN.out HI.out).mono ?_); rintro e w1 ⟨rfl, hb⟩; have B1 := Aside0.mk hb; clear hb)
  go_wp2_with (go_at_call 43; (with_reducible refine (clone_all (Rn.below H.out B1.out) HN.out).mono ?_); rintro e w2 ⟨v, rfl, hr, hb⟩; obtain ⟨A', c', rfl, hR⟩ := Rn.of_R hr; have R2 := Aside0.mk hR; have B2 := Aside0.mk hb; clear hr hb hR)
  go_ret2
  have hR := R2.out
  have hb2 : Below w.heap.size w w2 := below_step B1.out B2.out
  refine ⟨_, rfl, ⟨A', none, l.length, c', 0, 0, ?_, hR.below (below_alloc (Below.refl _ _) _), (Rn.nil _), fun hp ad e => ?_, fun hp => absurd hp (Nat.lt_irrefl 0), ?_, by omega⟩, below_alloc hb2 _, hb2.size⟩
  · exact blk_new _ _
  · have := hR.lt hp ad e
    omega
  · have := H.out.len
    have := HN.out
    omega
set_option maxRecDepth 100000 in
theorem new_no {A : Option Addr} {n c : Nat} {l : List Int} {w : World} (need : Int) (h : Rn w A n c l) (hn : n ≤ 1000) (hi : inc (-1) l = false) :
    Calls Tryd.prog 16 #[.slice A n c, .int .i64 need] w fun e w' => e = .returned (.tuple #[.pointer none, .iface 75 (.int .i64 1)]) ∧ Below w.heap.size w w' := by
  have H := Aside0.mk h
  have HN := Aside0.mk hn
  have HI := Aside0.mk hi
  clear h hn hi
  go_enter Tryd.func16, Tryd.ntmps16
  go_wp2_with (go_at_call 42; (with_reducible refine (check_no H.out HN.out HI.out).mono ?_); rintro e w1 ⟨rfl, hb⟩; have B1 := Aside0.mk hb; clear hb)
  go_ret2
  exact ⟨rfl, B1.out⟩

theorem sel_nil {l who : List Int} (h : ∀ x ∈ l, x ∈ who) : sel (fun n => decide ((n : Int) ∈ l) && !decide ((n : Int) ∈ who)) = [] := by
  unfold sel
  rw [List.map_eq_nil_iff, List.filter_eq_nil_iff]
  intro n _ hn
  simp only [Bool.and_eq_true, decide_eq_true_eq, Bool.not_eq_true', decide_eq_false_iff_not] at hn
  exact hn.2 (h _ hn.1)
theorem sel_pos {l who : List Int} (hi : inc (-1) l = true) (h : ¬ ∀ x ∈ l, x ∈ who) : 0 < (sel (fun n => decide ((n : Int) ∈ l) && !decide ((n : Int) ∈ who))).length := by
  rcases Nat.eq_zero_or_pos (sel (fun n => decide ((n : Int) ∈ l) && !decide ((n : Int) ∈ who))).length with h0 | h0
  · exfalso
    apply h
    intro x hx
    obtain ⟨h1, h2⟩ := inc_ge l (-1) x hi hx
    obtain ⟨m, rfl⟩ := Int.eq_ofNat_of_zero_le (show 0 ≤ x by omega)
    have h3 := List.length_eq_zero_iff.1 h0
    unfold sel at h3
    rw [List.map_eq_nil_iff, List.filter_eq_nil_iff] at h3
    have h4 := h3 m (by simp; omega)
    simp only [Bool.and_eq_true, decide_eq_true_eq, Bool.not_eq_true', decide_eq_false_iff_not, not_and, Decidable.not_not] at h4
    exact h4 hx
  · exact h0

/-- Ask, where it is refused: the guard stays. -/
def Refused (code : Int) (w : World) (e : Ending) (w' : World) : Prop := e = .returned (.iface 75 (.int .i64 code)) ∧ Below w.heap.size w w'

section
variable {A : Option Addr} {n c g : Nat} {l who came : List Int} {need : Int} {is : Bool} {w : World}
set_option maxRecDepth 100000 in
theorem ask_no (h : Rn w A n c l) (hn : n ≤ 1000) (hi : inc (-1) l = false) :
    Calls Tryd.prog 17 #[.pointer (some ⟨g, 0, none⟩), .slice A n c] w (Refused 1 w) := by
  have H := Aside0.mk h
  have HN := Aside0.mk hn
  have HI := Aside0.mk hi
  clear h hn hi
  go_enter Tryd.func17, Tryd.ntmps17
  go_wp2_with (go_at_call 42; (with_reducible refine (check_no H.out HN.out HI.out).mono ?_); rintro e w1 ⟨rfl, hb⟩; have B1 := Aside0.mk hb; clear hb)
  go_ret
  exact ⟨rfl, B1.out⟩
set_option maxRecDepth 100000 in
theorem ask_other (hs : St w g who need came is) (h : Rn w A n c l) (hn : n ≤ 1000) (hi : inc (-1) l = true) (ho : ¬ ∀ x ∈ l, x ∈ who) :
    Calls Tryd.prog 17 #[.pointer (some ⟨g, 0, none⟩), .slice A n c] w (Refused 1 w) := by
  obtain ⟨A1, B1, n1, c1, m1, d1, hs⟩ := hs
  have S0 := Aside0.mk hs
  have H := Aside0.mk h
  have HN := Aside0.mk hn
  have HI := Aside0.mk hi
  have HO := Aside0.mk ho
  clear h hn hi hs ho
  go_enter Tryd.func17, Tryd.ntmps17
  go_wp2_with (first | (go_at_call 42; (with_reducible refine (check_ok H.out HN.out HI.out).mono ?_); rintro e w1 ⟨rfl, hb⟩; have T1 := Aside0.mk hb; clear hb; have S1 := Aside0.mk (S0.out.below T1.out); obtain ⟨d0, d1, d2, d3, d4, d5⟩ := cells_of S1.out.blk) | (go_at_call 44; (with_reducible refine (less_is (Rn.below H.out T1.out) HN.out S1.out.who S1.out.n).mono ?_); rintro e w2 ⟨A2, n2, c2, rfl, hr, hb⟩; have q9 : decide (0 < n2) = true := (decide_eq_true (by have := hr.len; have := sel_pos HI.out HO.out; omega)); have T2 := Aside0.mk hb; clear hr hb))
  go_ret
  exact ⟨rfl, below_step T1.out T2.out⟩

set_option maxRecDepth 100000 in
theorem ask_few (hs : St w g who need came is) (h : Rn w A n c l) (hn : n ≤ 1000) (hi : inc (-1) l = true) (ho : ∀ x ∈ l, x ∈ who) (hf : (n : Int) < need) :
    Calls Tryd.prog 17 #[.pointer (some ⟨g, 0, none⟩), .slice A n c] w (Refused 7 w) := by
  obtain ⟨A1, B1, n1, c1, m1, d1, hs⟩ := hs
  have S0 := Aside0.mk hs
  have H := Aside0.mk h
  have HN := Aside0.mk hn
  have HI := Aside0.mk hi
  have HO := Aside0.mk ho
  clear h hn hi hs ho
  have q1 : decide ((n : Int) < need) = true := decide_eq_true hf
  clear hf
  go_enter Tryd.func17, Tryd.ntmps17
  go_wp2_with (first | (go_at_call 42; (with_reducible refine (check_ok H.out HN.out HI.out).mono ?_); rintro e w1 ⟨rfl, hb⟩; have T1 := Aside0.mk hb; clear hb; have S1 := Aside0.mk (S0.out.below T1.out); obtain ⟨d0, d1, d2, d3, d4, d5⟩ := cells_of S1.out.blk) | (go_at_call 44; (with_reducible refine (less_is (Rn.below H.out T1.out) HN.out S1.out.who S1.out.n).mono ?_); rintro e w2 ⟨A2, n2, c2, rfl, hr, hb⟩; obtain rfl : n2 = 0 := (by have := hr.len; rw [sel_nil HO.out] at this; exact this.symm); have T2 := Aside0.mk (below_step T1.out hb); have S2 := Aside0.mk (S1.out.below hb); clear d0 d1 d2 d3 d4 d5; obtain ⟨d0, d1, d2, d3, d4, d5⟩ := cells_of S2.out.blk; clear hr hb))
  go_ret
  exact ⟨rfl, T2.out⟩
set_option maxRecDepth 100000 in
theorem ask_rule (hs : St w g who need came true) (h : Rn w A n c l) (hn : n ≤ 1000) (hi : inc (-1) l = true) (ho : ∀ x ∈ l, x ∈ who) (hf : ¬ (n : Int) < need) (hr : l ≠ came) :
    Calls Tryd.prog 17 #[.pointer (some ⟨g, 0, none⟩), .slice A n c] w (Refused 12 w) := by
  obtain ⟨A1, B1, n1, c1, m1, d1, hs⟩ := hs
  have S0 := Aside0.mk hs
  have H := Aside0.mk h
  have HN := Aside0.mk hn
  have HI := Aside0.mk hi
  have HO := Aside0.mk ho
  clear h hn hi hs ho
  have q1 : decide ((n : Int) < need) = false := decide_eq_false hf
  have HR := Aside0.mk (decide_eq_false hr)
  clear hf hr
  go_enter Tryd.func17, Tryd.ntmps17
  go_wp2_with (first | (go_at_call 42; (with_reducible refine (check_ok H.out HN.out HI.out).mono ?_); rintro e w1 ⟨rfl, hb⟩; have T1 := Aside0.mk hb; clear hb; have S1 := Aside0.mk (S0.out.below T1.out); obtain ⟨d0, d1, d2, d3, d4, d5⟩ := cells_of S1.out.blk) | (go_at_call 44; (with_reducible refine (less_is (Rn.below H.out T1.out) HN.out S1.out.who S1.out.n).mono ?_); rintro e w2 ⟨A2, n2, c2, rfl, hr, hb⟩; obtain rfl : n2 = 0 := (by have := hr.len; rw [sel_nil HO.out] at this; exact this.symm); have T2 := Aside0.mk (below_step T1.out hb); have S2 := Aside0.mk (S1.out.below hb); clear d0 d1 d2 d3 d4 d5; obtain ⟨d0, d1, d2, d3, d4, d5⟩ := cells_of S2.out.blk; clear hr hb) | (go_at_call 45; (with_reducible refine (equal_is false (Rn.below H.out T2.out) HN.out S2.out.came HR.out).mono ?_); rintro e w3 ⟨rfl, hb⟩; have T3 := Aside0.mk (below_step T2.out hb); clear hb))
  go_ret
  exact ⟨rfl, T3.out⟩

/-- Ask, where it is granted: the guard knows who came. -/
def Granted (g : Nat) (who : List Int) (need : Int) (l : List Int) (w : World) (e : Ending) (w' : World) : Prop := e = .returned .nilIface ∧ St w' g who need l true ∧ w.grownBy w' (some g)
theorem below_grown {w w1 : World} (h : Below w.heap.size w w1) (g : Option Nat) : w.grownBy w1 g := grown_of_below h g
theorem grown_set {w w1 : World} {g : Nat} (h : w.grownBy w1 (some g)) (j : Nat) (v : Value) : w.grownBy (w1.setCell ⟨g, j, none⟩ v) (some g) :=
  ⟨h.os, h.tape, h.output, by show w.heap.size ≤ (w1.heap.modify _ _).size; rw [Array.size_modify]; exact h.size, fun k hk hne => by
    rw [Below.heap_setCell w1 _ _ _ (by show k ≠ g; intro e; exact hne (by rw [e]))]
    exact h.block k hk hne⟩
theorem ask_post {g : Nat} {A1 B1 A3 : Option Addr} {n1 c1 m1 d1 n3 c3 : Nat} {who came l : List Int} {need : Int} {is : Bool} {w w3 : World} (hw : Below w.heap.size w w3) (hs : St0 w3 g A1 B1 n1 c1 m1 d1 who need came is) (hR : Rn w3 A3 n3 c3 l) (hn3 : n3 ≤ 1000) (hne : 0 < n3 → ∀ ad, A3 = some ad → ad.block ≠ g) :
    St ((w3.setCell ⟨g, 2, none⟩ (.slice A3 n3 c3)).setCell ⟨g, 3, none⟩ (.bool true)) g who need l true ∧ w.grownBy ((w3.setCell ⟨g, 2, none⟩ (.slice A3 n3 c3)).setCell ⟨g, 3, none⟩ (.bool true)) (some g) := by
  have hg0 : w3.grownBy w3 (some g) := grown_of_below (Below.refl _ _) _
  have hg := grown_set (grown_set hg0 2 (.slice A3 n3 c3)) 3 (.bool true)
  refine ⟨⟨A1, A3, n1, c1, n3, c3, ?_, hs.who.grown hg hs.a, hR.grown hg hne, hs.a, hne, hs.n, hn3⟩, grown_set (grown_set (grown_of_below hw _) 2 _) 3 _⟩
  exact blk_set (blk_set hs.blk 2 (.slice A3 n3 c3)) 3 (.bool true)
theorem clone_ne {w w' : World} {g : Nat} {n c : Nat} {A : Option Addr} {l : List Int} {o : Obj} (h : Kd.R (Kd.int .i64) 3 w' w.heap.size (fun _ => True) (.slice A n c) l) (hb : w.heap[g]? = some o) : 0 < n → ∀ ad, A = some ad → ad.block ≠ g := by
  rintro _ ad rfl e
  have h1 := Kd.R_base h ad.block (by simp [Value.ownBlock])
  have h2 := blk_lt hb
  omega
set_option maxRecDepth 100000 in
theorem ask_ok (hs : St w g who need came is) (h : Rn w A n c l) (hn : n ≤ 1000) (hi : inc (-1) l = true) (ho : ∀ x ∈ l, x ∈ who) (hf : ¬ (n : Int) < need) (hr : is = true → l = came) :
    Calls Tryd.prog 17 #[.pointer (some ⟨g, 0, none⟩), .slice A n c] w (Granted g who need l w) := by
  obtain ⟨A1, B1, n1, c1, m1, d1, hs⟩ := hs
  have S0 := Aside0.mk hs
  have H := Aside0.mk h
  have HN := Aside0.mk hn
  have HI := Aside0.mk hi
  have HO := Aside0.mk ho
  clear h hn hi hs ho
  have q1 : decide ((n : Int) < need) = false := decide_eq_false hf
  clear hf
  cases is with
  | false =>
    clear hr
    go_enter Tryd.func17, Tryd.ntmps17
    go_wp2_with (first | (go_at_call 42; (with_reducible refine (check_ok H.out HN.out HI.out).mono ?_); rintro e w1 ⟨rfl, hb⟩; have T1 := Aside0.mk hb; clear hb; have S1 := Aside0.mk (S0.out.below T1.out); obtain ⟨d0, d1, d2, d3, d4, d5⟩ := cells_of S1.out.blk) | (go_at_call 44; (with_reducible refine (less_is (Rn.below H.out T1.out) HN.out S1.out.who S1.out.n).mono ?_); rintro e w2 ⟨A2, n2, c2, rfl, hr, hb⟩; obtain rfl : n2 = 0 := (by have := hr.len; rw [sel_nil HO.out] at this; exact this.symm); have T2 := Aside0.mk (below_step T1.out hb); have S2 := Aside0.mk (S1.out.below hb); clear d0 d1 d2 d3 d4 d5; obtain ⟨d0, d1, d2, d3, d4, d5⟩ := cells_of S2.out.blk; clear hr hb) | (go_at_call 43; (with_reducible refine (clone_all (Rn.below H.out T2.out) HN.out).mono ?_); rintro e w3 ⟨v, rfl, hr, hb⟩; obtain ⟨A3, c3, rfl, hR⟩ := Rn.of_R hr; have NE := Aside0.mk (clone_ne hr S2.out.blk); have R3 := Aside0.mk hR; have T3 := Aside0.mk (below_step T2.out hb); have S3 := Aside0.mk (S2.out.below hb); clear d0 d1 d2 d3 d4 d5; obtain ⟨d0, d1, d2, d3, d4, d5⟩ := cells_of S3.out.blk; clear hr hb hR))
    go_ret
    obtain ⟨p1, p2⟩ := ask_post T3.out S3.out R3.out (by have := H.out.len; have := HN.out; omega) NE.out
    exact ⟨rfl, p1, p2⟩
  | true =>
    have HR := Aside0.mk (decide_eq_true (hr rfl))
    clear hr
    go_enter Tryd.func17, Tryd.ntmps17
    go_wp2_with (first | (go_at_call 42; (with_reducible refine (check_ok H.out HN.out HI.out).mono ?_); rintro e w1 ⟨rfl, hb⟩; have T1 := Aside0.mk hb; clear hb; have S1 := Aside0.mk (S0.out.below T1.out); obtain ⟨d0, d1, d2, d3, d4, d5⟩ := cells_of S1.out.blk) | (go_at_call 44; (with_reducible refine (less_is (Rn.below H.out T1.out) HN.out S1.out.who S1.out.n).mono ?_); rintro e w2 ⟨A2, n2, c2, rfl, hr, hb⟩; obtain rfl : n2 = 0 := (by have := hr.len; rw [sel_nil HO.out] at this; exact this.symm); have T2 := Aside0.mk (below_step T1.out hb); have S2 := Aside0.mk (S1.out.below hb); clear d0 d1 d2 d3 d4 d5; obtain ⟨d0, d1, d2, d3, d4, d5⟩ := cells_of S2.out.blk; clear hr hb) | (go_at_call 45; (with_reducible refine (equal_is true (Rn.below H.out T2.out) HN.out S2.out.came HR.out).mono ?_); rintro e w4 ⟨rfl, hb⟩; have T4 := Aside0.mk (below_step T2.out hb); have S4 := Aside0.mk (S2.out.below hb); clear d0 d1 d2 d3 d4 d5; obtain ⟨d0, d1, d2, d3, d4, d5⟩ := cells_of S4.out.blk; clear hb) | (go_at_call 43; (with_reducible refine (clone_all (Rn.below H.out T4.out) HN.out).mono ?_); rintro e w3 ⟨v, rfl, hr, hb⟩; obtain ⟨A3, c3, rfl, hR⟩ := Rn.of_R hr; have NE := Aside0.mk (clone_ne hr S4.out.blk); have R3 := Aside0.mk hR; have T3 := Aside0.mk (below_step T4.out hb); have S3 := Aside0.mk (S4.out.below hb); clear d0 d1 d2 d3 d4 d5; obtain ⟨d0, d1, d2, d3, d4, d5⟩ := cells_of S3.out.blk; clear hr hb hR))
    go_ret
    obtain ⟨p1, p2⟩ := ask_post T3.out S3.out R3.out (by have := H.out.len; have := HN.out; omega) NE.out
    exact ⟨rfl, p1, p2⟩
end
end Go.Proofs.YtfomajippdcaoaaDoor.Gu
