/-
  guard.Ask, whatever is asked: one contract; and the guard beside a block of the caller's own.
-/
import Derived.Test.YtfomajippdcaoaaDoorGuardSure
import Derived.Test.YtfomajippdcaoaaDoorRefFacts
namespace Go.Proofs.YtfomajippdcaoaaDoor.Gu
open Go.RowKit Go.Proofs.YtfomajippdcaoaaDoorW.PrintWords Go.Proofs.YtfomajippdcaoaaDoorW.PrintLast Go.Proofs.YtfomajippdcaoaaDoorW.PrintMore Go.Proofs.YtfomajippdcaoaaDoor.PSet Go.Proofs.YtfomajippdcaoaaDoor.Sc

/-- a guard none of whose rows lies in block o -/
def StO (w : World) (o g : Nat) (who : List Int) (need : Int) (came : List Int) (is : Bool) : Prop :=
  ∃ A B n c m d, St0 w g A B n c m d who need came is ∧ (0 < n → ∀ ad, A = some ad → ad.block ≠ o) ∧ (0 < m → ∀ ad, B = some ad → ad.block ≠ o)
theorem StO.st {w : World} {o g : Nat} {who : List Int} {need : Int} {came : List Int} {is : Bool} (h : StO w o g who need came is) : St w g who need came is := by
  obtain ⟨A, B, n, c, m, d, h, _, _⟩ := h
  exact ⟨A, B, n, c, m, d, h⟩
theorem StO.below {w w1 : World} {o g : Nat} {who : List Int} {need : Int} {came : List Int} {is : Bool} (h : StO w o g who need came is) (hb : Below w.heap.size w w1) : StO w1 o g who need came is := by
  obtain ⟨A, B, n, c, m, d, h, h1, h2⟩ := h
  exact ⟨A, B, n, c, m, d, h.below hb, h1, h2⟩
/-- a block that is made behind the guard -/
theorem St.beside {w : World} {g : Nat} {who : List Int} {need : Int} {came : List Int} {is : Bool} (h : St w g who need came is) : StO w w.heap.size g who need came is := by
  obtain ⟨A, B, n, c, m, d, h⟩ := h
  refine ⟨A, B, n, c, m, d, h, fun hp ad e he => ?_, fun hp ad e he => ?_⟩
  · have := h.who.lt hp ad e; omega
  · have := h.came.lt hp ad e; omega
theorem StO.set {w : World} {o g : Nat} {who : List Int} {need : Int} {came : List Int} {is : Bool} (h : StO w o g who need came is) (ho : o ≠ g) (j : Nat) (v : Value) : StO (w.setCell ⟨o, j, none⟩ v) o g who need came is := by
  obtain ⟨A, B, n, c, m, d, h, h1, h2⟩ := h
  have hg := grown_set (g := o) (grown_of_below (Below.refl w.heap.size w) (some o)) j v
  exact ⟨A, B, n, c, m, d, ⟨(Below.heap_setCell w _ _ _ (fun e => ho e.symm)).trans h.blk, h.who.grown hg h1, h.came.grown hg h2, h.a, h.b, h.n, h.m⟩, h1, h2⟩

/-- the code of what Ask tells -/
def askC (who : List Int) (need : Int) (came : List Int) (is : Bool) (l : List Int) : Int :=
  if inc (-1) l = false then 1 else if ∀ x ∈ l, x ∈ who then (if (l.length : Int) < need then 7 else if is = true ∧ l ≠ came then 12 else 0) else 1
def errV (c : Int) : Value := if c = 0 then .nilIface else .iface 75 (.int .i64 c)
def nxC (c : Int) (l came : List Int) : List Int := if c = 0 then l else came
def nxI (c : Int) (is : Bool) : Bool := if c = 0 then true else is
/-- what Ask does: it tells its code, and the guard is the next one -/
def Asked (o g : Nat) (who : List Int) (need : Int) (came : List Int) (is : Bool) (l : List Int) (w : World) (e : Ending) (w' : World) : Prop :=
  e = .returned (errV (askC who need came is l)) ∧ StO w' o g who need (nxC (askC who need came is l) l came) (nxI (askC who need came is l) is) ∧ w.grownBy w' (some g)

theorem clone_neO {w w' : World} {o : Nat} {n c : Nat} {A : Option Addr} {l : List Int} (h : Kd.R (Kd.int .i64) 3 w' w.heap.size (fun _ => True) (.slice A n c) l) (ho : o < w.heap.size) : 0 < n → ∀ ad, A = some ad → ad.block ≠ o := by
  rintro _ ad rfl e
  have h1 := Kd.R_base h ad.block (by simp [Value.ownBlock])
  omega
theorem ask_post0 {g : Nat} {A1 B1 A3 : Option Addr} {n1 c1 m1 d1 n3 c3 : Nat} {who came l : List Int} {need : Int} {is : Bool} {w3 : World} (hs : St0 w3 g A1 B1 n1 c1 m1 d1 who need came is) (hR : Rn w3 A3 n3 c3 l) (hn3 : n3 ≤ 1000) (hne : 0 < n3 → ∀ ad, A3 = some ad → ad.block ≠ g) :
    St0 ((w3.setCell ⟨g, 2, none⟩ (.slice A3 n3 c3)).setCell ⟨g, 3, none⟩ (.bool true)) g A1 A3 n1 c1 n3 c3 who need l true := by
  have hg0 : w3.grownBy w3 (some g) := grown_of_below (Below.refl _ _) _
  have hg := grown_set (grown_set hg0 2 (.slice A3 n3 c3)) 3 (.bool true)
  exact ⟨blk_set (blk_set hs.blk 2 (.slice A3 n3 c3)) 3 (.bool true), hs.who.grown hg hs.a, hR.grown hg hne, hs.a, hne, hs.n, hn3⟩

section
variable {A : Option Addr} {n c o g : Nat} {l who came : List Int} {need : Int} {is : Bool} {w : World}
def GrantedO (o g : Nat) (who : List Int) (need : Int) (l : List Int) (w : World) (e : Ending) (w' : World) : Prop := e = .returned .nilIface ∧ StO w' o g who need l true ∧ w.grownBy w' (some g)
set_option maxRecDepth 100000 in
theorem ask_okO (hs : StO w o g who need came is) (hlo : o < w.heap.size) (h : Rn w A n c l) (hn : n ≤ 1000) (hi : inc (-1) l = true) (ho : ∀ x ∈ l, x ∈ who) (hf : ¬ (n : Int) < need) (hr : is = true → l = came) :
    Calls Tryd.prog 17 #[.pointer (some ⟨g, 0, none⟩), .slice A n c] w (GrantedO o g who need l w) := by
  obtain ⟨A1, B1, n1, c1, m1, d1, hs, ha, _⟩ := hs
  have S0 := Aside0.mk hs
  have H := Aside0.mk h
  have HN := Aside0.mk hn
  have HI := Aside0.mk hi
  have HO := Aside0.mk ho
  have HA := Aside0.mk ha
  have HLO := Aside0.mk hlo
  clear h hn hi hs ho ha hlo
  have q1 : decide ((n : Int) < need) = false := decide_eq_false hf
  clear hf
  cases is with
  | false =>
    clear hr
    go_enter Tryd.func17, Tryd.ntmps17
    go_wp2_with (first | (go_at_call 42; (with_reducible refine (check_ok H.out HN.out HI.out).mono ?_); rintro e w1 ⟨rfl, hb⟩; have T1 := Aside0.mk hb; clear hb; have S1 := Aside0.mk (S0.out.below T1.out); obtain ⟨d0, d1, d2, d3, d4, d5⟩ := cells_of S1.out.blk) | (go_at_call 44; (with_reducible refine (less_is (Rn.below H.out T1.out) HN.out S1.out.who S1.out.n).mono ?_); rintro e w2 ⟨A2, n2, c2, rfl, hr, hb⟩; obtain rfl : n2 = 0 := (by have := hr.len; rw [sel_nil HO.out] at this; exact this.symm); have T2 := Aside0.mk (below_step T1.out hb); have S2 := Aside0.mk (S1.out.below hb); clear d0 d1 d2 d3 d4 d5; obtain ⟨d0, d1, d2, d3, d4, d5⟩ := cells_of S2.out.blk; clear hr hb) | (go_at_call 43; (with_reducible refine (clone_all (Rn.below H.out T2.out) HN.out).mono ?_); rintro e w3 ⟨v, rfl, hr, hb⟩; obtain ⟨A3, c3, rfl, hR⟩ := Rn.of_R hr; have NE := Aside0.mk (clone_ne hr S2.out.blk); have NEO := Aside0.mk (clone_neO (o := o) hr (Nat.lt_of_lt_of_le HLO.out T2.out.size)); have R3 := Aside0.mk hR; have T3 := Aside0.mk (below_step T2.out hb); have S3 := Aside0.mk (S2.out.below hb); clear d0 d1 d2 d3 d4 d5; obtain ⟨d0, d1, d2, d3, d4, d5⟩ := cells_of S3.out.blk; clear hr hb hR))
    go_ret
    have hl3 : l.length ≤ 1000 := (by have := H.out.len; have := HN.out; omega)
    obtain ⟨_, p2⟩ := ask_post T3.out S3.out R3.out hl3 NE.out
    exact ⟨rfl, ⟨_, _, _, _, _, _, ask_post0 S3.out R3.out hl3 NE.out, HA.out, NEO.out⟩, p2⟩
  | true =>
    have HR := Aside0.mk (decide_eq_true (hr rfl))
    clear hr
    go_enter Tryd.func17, Tryd.ntmps17
    go_wp2_with (first | (go_at_call 42; (with_reducible refine (check_ok H.out HN.out HI.out).mono ?_); rintro e w1 ⟨rfl, hb⟩; have T1 := Aside0.mk hb; clear hb; have S1 := Aside0.mk (S0.out.below T1.out); obtain ⟨d0, d1, d2, d3, d4, d5⟩ := cells_of S1.out.blk) | (go_at_call 44; (with_reducible refine (less_is (Rn.below H.out T1.out) HN.out S1.out.who S1.out.n).mono ?_); rintro e w2 ⟨A2, n2, c2, rfl, hr, hb⟩; obtain rfl : n2 = 0 := (by have := hr.len; rw [sel_nil HO.out] at this; exact this.symm); have T2 := Aside0.mk (below_step T1.out hb); have S2 := Aside0.mk (S1.out.below hb); clear d0 d1 d2 d3 d4 d5; obtain ⟨d0, d1, d2, d3, d4, d5⟩ := cells_of S2.out.blk; clear hr hb) | (go_at_call 45; (with_reducible refine (equal_is true (Rn.below H.out T2.out) HN.out S2.out.came HR.out).mono ?_); rintro e w4 ⟨rfl, hb⟩; have T4 := Aside0.mk (below_step T2.out hb); have S4 := Aside0.mk (S2.out.below hb); clear d0 d1 d2 d3 d4 d5; obtain ⟨d0, d1, d2, d3, d4, d5⟩ := cells_of S4.out.blk; clear hb) | (go_at_call 43; (with_reducible refine (clone_all (Rn.below H.out T4.out) HN.out).mono ?_); rintro e w3 ⟨v, rfl, hr, hb⟩; obtain ⟨A3, c3, rfl, hR⟩ := Rn.of_R hr; have NE := Aside0.mk (clone_ne hr S4.out.blk); have NEO := Aside0.mk (clone_neO (o := o) hr (Nat.lt_of_lt_of_le HLO.out T4.out.size)); have R3 := Aside0.mk hR; have T3 := Aside0.mk (below_step T4.out hb); have S3 := Aside0.mk (S4.out.below hb); clear d0 d1 d2 d3 d4 d5; obtain ⟨d0, d1, d2, d3, d4, d5⟩ := cells_of S3.out.blk; clear hr hb hR))
    go_ret
    have hl3 : l.length ≤ 1000 := (by have := H.out.len; have := HN.out; omega)
    obtain ⟨_, p2⟩ := ask_post T3.out S3.out R3.out hl3 NE.out
    exact ⟨rfl, ⟨_, _, _, _, _, _, ask_post0 S3.out R3.out hl3 NE.out, HA.out, NEO.out⟩, p2⟩

theorem asked_of_refused {code : Int} (hs : StO w o g who need came is) (hc : askC who need came is l = code) (h0 : code ≠ 0) {e : Ending} {w' : World} (h : Refused code w e w') : Asked o g who need came is l w e w' := by
  obtain ⟨rfl, hb⟩ := h
  refine ⟨?_, ?_, grown_of_below hb _⟩
  · rw [hc, errV, if_neg h0]
  · rw [hc, nxC, nxI, if_neg h0, if_neg h0]
    exact hs.below hb
theorem ask_any (hs : StO w o g who need came is) (hlo : o < w.heap.size) (h : Rn w A n c l) (hn : n ≤ 1000) :
    Calls Tryd.prog 17 #[.pointer (some ⟨g, 0, none⟩), .slice A n c] w (Asked o g who need came is l w) := by
  have hl := h.len
  cases hi : inc (-1) l with
  | false => exact (ask_no h hn hi).mono fun _ _ hr => asked_of_refused hs (by rw [askC, if_pos hi]) (by decide) hr
  | true =>
    have hi' : ¬ inc (-1) l = false := by rw [hi]; decide
    by_cases ho : ∀ x ∈ l, x ∈ who
    · by_cases hf : (n : Int) < need
      · exact (ask_few hs.st h hn hi ho hf).mono fun _ _ hr => asked_of_refused hs (by rw [askC, if_neg hi', if_pos ho, if_pos (by rw [hl]; exact hf)]) (by decide) hr
      · have hf' : ¬ (l.length : Int) < need := by rw [hl]; exact hf
        by_cases hr : is = true ∧ l ≠ came
        · obtain ⟨rfl, hne⟩ := hr
          exact (ask_rule hs.st h hn hi ho hf hne).mono fun _ _ hr => asked_of_refused hs (by rw [askC, if_neg hi', if_pos ho, if_neg hf', if_pos ⟨rfl, hne⟩]) (by decide) hr
        · have hc : askC who need came is l = 0 := by rw [askC, if_neg hi', if_pos ho, if_neg hf', if_neg hr]
          refine (ask_okO hs hlo h hn hi ho hf (fun h1 => Classical.byContradiction fun h2 => hr ⟨h1, h2⟩)).mono ?_
          rintro e w' ⟨rfl, h1, h2⟩
          refine ⟨by rw [hc]; rfl, ?_, h2⟩
          rw [hc]
          exact h1
    · exact (ask_other hs.st h hn hi ho).mono fun _ _ hr => asked_of_refused hs (by rw [askC, if_neg hi', if_neg ho]) (by decide) hr
end

/-! ### an array of 64 numbers in a block of its own -/
def OutOf (w : World) (o : Nat) (f : Nat → Int) : Prop := ∀ j, j < 64 → w.cell? ⟨o, j, none⟩ = some (.int .i64 (f j)) ∧ w.frozen? ⟨o, j, none⟩ = false
theorem OutOf.below {w w1 : World} {o : Nat} {f : Nat → Int} (h : OutOf w o f) (hb : Below w.heap.size w w1) : OutOf w1 o f := fun j hj => by
  obtain ⟨h1, h2⟩ := h j hj
  have hl := World.block_lt_of_cell? w _ h1
  exact ⟨(hb.cell hl).trans h1, (hb.frozen hl).trans h2⟩
theorem OutOf.lt {w : World} {o : Nat} {f : Nat → Int} (h : OutOf w o f) : o < w.heap.size := World.block_lt_of_cell? w _ (h 0 (by omega)).1
theorem OutOf.grown {w w1 : World} {o g : Nat} {f : Nat → Int} (h : OutOf w o f) (hg : w.grownBy w1 (some g)) (hne : o ≠ g) : OutOf w1 o f := fun j hj => by
  obtain ⟨h1, h2⟩ := h j hj
  have hb := hg.block o h.lt (by intro e; exact hne (by injection e))
  exact ⟨(World.cell?_of_block (w := w) (a := ⟨o, j, none⟩) hb).trans h1, (World.frozen?_of_block (w := w) (a := ⟨o, j, none⟩) hb).trans h2⟩
theorem OutOf.set {w : World} {o : Nat} {f : Nat → Int} (h : OutOf w o f) (i : Nat) (hi : i < 64) (x : Int) : OutOf (w.setCell ⟨o, i, none⟩ (.int .i64 x)) o (fun j => if j = i then x else f j) := fun j hj => by
  obtain ⟨h1, h2⟩ := h j hj
  refine ⟨?_, by simpa using h2⟩
  by_cases e : j = i
  · subst e
    show _ = some (Value.int .i64 (if j = j then x else f j))
    rw [if_pos rfl]
    exact World.cell?_setCell_same _ _ _ h1
  · show _ = some (Value.int .i64 (if j = i then x else f j))
    rw [if_neg e, World.cell?_setCell_other _ _ _ _ (fun h => e (by injection h with _ h2; exact h2.symm))]
    exact h1
theorem OutOf.congr {w : World} {o : Nat} {f f' : Nat → Int} (h : OutOf w o f) (he : ∀ j, j < 64 → f j = f' j) : OutOf w o f' := fun j hj => by rw [← he j hj]; exact h j hj
theorem out_blk {w : World} {o : Nat} {ty : Nat} (e : w.heap[o]? = some (.cells (Array.replicate 64 (.int .i64 0)) ty (0, 0))) : OutOf w o (fun _ => 0) := fun j hj => by
  constructor
  · simp only [World.cell?]
    rw [e]
    simp [hj]
  · simp only [World.frozen?]
    rw [e]
    simp
end Go.Proofs.YtfomajippdcaoaaDoor.Gu
