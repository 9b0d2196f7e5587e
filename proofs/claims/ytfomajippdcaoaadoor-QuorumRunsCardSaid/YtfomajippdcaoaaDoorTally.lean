/-
  The tally's own functions (quorum), walked: what each answers, and what becomes of the tally.
-/
import Derived.Test.YtfomajippdcaoaaDoorRefFacts
import Derived.Test.YtfomajippdcaoaaDoorGuardSure
namespace Go.Proofs.YtfomajippdcaoaaDoor.Qu
open Go.RowKit Go.Proofs.YtfomajippdcaoaaDoorW.PrintWords Go.Proofs.YtfomajippdcaoaaDoorW.PrintLast Go.Proofs.YtfomajippdcaoaaDoorW.PrintMore Go.Proofs.YtfomajippdcaoaaDoor.PSet Go.Proofs.YtfomajippdcaoaaDoor.Sc

/-- a tally in memory; none of its rows lies in a block of av -/
def TO (A B C : Option Addr) (n c m d p q : Nat) (need left : Int) : Obj := .cells #[.slice A n c, .slice B m d, .slice C p q, .int .i64 need, .int .i64 left] 85 (0, 0)
structure Tl0 (w : World) (av : Nat → Prop) (t : Nat) (A B C : Option Addr) (n c m d p q : Nat) (who inn gone : List Int) (need left : Int) : Prop where
  blk : w.heap[t]? = some (TO A B C n c m d p q need left)
  who : Rn w A n c who
  inn : Rn w B m d inn
  gone : Rn w C p q gone
  ln : n ≤ 1000
  lm : m ≤ 1000
  lp : p ≤ 1000
  tv : av t
  al : ∀ k, av k → k < w.heap.size
  na : 0 < n → ∀ ad, A = some ad → ¬ av ad.block
  nb : 0 < m → ∀ ad, B = some ad → ¬ av ad.block
  nc : 0 < p → ∀ ad, C = some ad → ¬ av ad.block
def Tl (w : World) (av : Nat → Prop) (t : Nat) (who inn gone : List Int) (need left : Int) : Prop := ∃ A B C n c m d p q, Tl0 w av t A B C n c m d p q who inn gone need left
section
variable {w w1 : World} {av : Nat → Prop} {t : Nat} {A B C : Option Addr} {n c m d p q : Nat} {who inn gone : List Int} {need left : Int}
theorem Tl0.below (h : Tl0 w av t A B C n c m d p q who inn gone need left) (hb : Below w.heap.size w w1) : Tl0 w1 av t A B C n c m d p q who inn gone need left :=
  ⟨blk_below h.blk hb, h.who.below hb, h.inn.below hb, h.gone.below hb, h.ln, h.lm, h.lp, h.tv, fun k hk => Nat.lt_of_lt_of_le (h.al k hk) hb.size, h.na, h.nb, h.nc⟩
theorem Tl.below (h : Tl w av t who inn gone need left) (hb : Below w.heap.size w w1) : Tl w1 av t who inn gone need left := by
  obtain ⟨A, B, C, n, c, m, d, p, q, h⟩ := h
  exact ⟨A, B, C, n, c, m, d, p, q, h.below hb⟩
/-- a block of av besides the tally's is written -/
theorem Tl.set (h : Tl w av t who inn gone need left) {o : Nat} (ha : av o) (hne : o ≠ t) (j : Nat) (v : Value) : Tl (w.setCell ⟨o, j, none⟩ v) av t who inn gone need left := by
  obtain ⟨A, B, C, n, c, m, d, p, q, h⟩ := h
  have hg := Gu.grown_set (g := o) (grown_of_below (Below.refl w.heap.size w) (some o)) j v
  exact ⟨A, B, C, n, c, m, d, p, q, (Below.heap_setCell w _ _ _ (fun e => hne e.symm)).trans h.blk, h.who.grown hg (fun hp ad e e2 => h.na hp ad e (by rw [e2]; exact ha)), h.inn.grown hg (fun hp ad e e2 => h.nb hp ad e (by rw [e2]; exact ha)), h.gone.grown hg (fun hp ad e e2 => h.nc hp ad e (by rw [e2]; exact ha)), h.ln, h.lm, h.lp, h.tv, fun k hk => Nat.lt_of_lt_of_le (h.al k hk) hg.size, h.na, h.nb, h.nc⟩
/-- a new block beside it -/
theorem Tl.beside (h : Tl w av t who inn gone need left) (ob : Obj) : Tl (w.alloc ob) (fun k => av k ∨ k = w.heap.size) t who inn gone need left := by
  obtain ⟨A, B, C, n, c, m, d, p, q, h⟩ := h
  have h1 := h.below (below_alloc (Below.refl _ _) ob)
  have hlt : ∀ {X : Option Addr} {k r : Nat} {l : List Int}, Rn w X k r l → 0 < k → ∀ ad, X = some ad → ¬ ad.block = w.heap.size := fun hr hp ad e => by have := hr.lt hp ad e; omega
  refine ⟨A, B, C, n, c, m, d, p, q, h1.blk, h1.who, h1.inn, h1.gone, h.ln, h.lm, h.lp, Or.inl h.tv, fun k hk => ?_, fun hp ad e he => he.elim (h.na hp ad e) (hlt h.who hp ad e), fun hp ad e he => he.elim (h.nb hp ad e) (hlt h.inn hp ad e), fun hp ad e he => he.elim (h.nc hp ad e) (hlt h.gone hp ad e)⟩
  show k < (w.heap.push _).size
  rw [Array.size_push]
  rcases hk with hk | rfl
  · have := h.al k hk; omega
  · omega
theorem cells_of (h : w.heap[t]? = some (TO A B C n c m d p q need left)) :
    w.cell? ⟨t, 0, none⟩ = some (.slice A n c) ∧ w.cell? ⟨t, 1, none⟩ = some (.slice B m d) ∧ w.cell? ⟨t, 2, none⟩ = some (.slice C p q) ∧ w.cell? ⟨t, 3, none⟩ = some (.int .i64 need) ∧ w.cell? ⟨t, 4, none⟩ = some (.int .i64 left) ∧ w.frozen? ⟨t, 1, none⟩ = false ∧ w.frozen? ⟨t, 2, none⟩ = false ∧ w.frozen? ⟨t, 4, none⟩ = false := by
  unfold TO at h
  simp [World.cell?, World.frozen?, h]
end

/-- whether it is waited (0), or there are enough (1), or too few (2) -/
def stq (n m p : Nat) (need left : Int) : Int :=
  if (m : Int) = n - p ∨ left = 0 then (if need ≤ m then 1 else 2) else if (n : Int) - p < need then 2 else 0

section
variable {w : World} {av : Nat → Prop} {t : Nat} {A B C : Option Addr} {n c m d p q : Nat} {who inn gone : List Int} {need left : Int}
set_option maxRecDepth 100000 in
set_option maxHeartbeats 1000000 in
theorem state0 (v : Int) (hs : Tl0 w av t A B C n c m d p q who inn gone need left) (hv : stq n m p need left = v) : Calls Tryd.prog 30 #[.pointer (some ⟨t, 0, none⟩)] w (Sc.Told (.int .i64 v) w) := by
  obtain ⟨c0, c1, c2, c3, c4, f1, f2, f4⟩ := cells_of hs.blk
  have hn := hs.ln
  have hm := hs.lm
  have hp := hs.lp
  have hw1 : wrap64 ((n : Int) - m) = (n : Int) - m := wrap64_in' _ (by omega) (by omega)
  obtain ⟨op, hop⟩ : ∃ op : Int, op = (n : Int) - m - p := ⟨_, rfl⟩
  have hw2 : wrap64 ((n : Int) - m - p) = op := by rw [hop]; exact wrap64_in' _ (by omega) (by omega)
  have hw3 : wrap64 ((m : Int) + op) = (m : Int) + op := wrap64_in' _ (by omega) (by omega)
  unfold stq at hv
  have HOP := Aside0.mk hop
  clear hop hn hm hp hs
  by_cases hl : left = 0
  · rw [if_pos (Or.inr hl)] at hv
    subst hl
    by_cases hg : need ≤ (m : Int)
    · rw [if_pos hg] at hv
      subst hv
      first | (have g1 := decide_eq_false hg) | (have g1 := decide_eq_true hg)
      clear hg
      go_enter Tryd.func30, Tryd.ntmps30
      go_wp2_with fail
      go_quiet (fail)
      go_wp2_with fail
      go_quiet (fail)
      go_wp2_with fail
      go_ret
      exact ⟨rfl, by repeat (first | exact Below.refl _ _ | apply pw_below_drewN)⟩
    · rw [if_neg hg] at hv
      subst hv
      first | (have g1 := decide_eq_false hg) | (have g1 := decide_eq_true hg)
      clear hg
      go_enter Tryd.func30, Tryd.ntmps30
      go_wp2_with fail
      go_quiet (fail)
      go_wp2_with fail
      go_quiet (fail)
      go_wp2_with fail
      go_quiet (fail)
      go_wp2_with fail
      go_ret
      exact ⟨rfl, by repeat (first | exact Below.refl _ _ | apply pw_below_drewN)⟩
  · have z1 : (left == 0) = false := by simpa using hl
    have z2 : decide (left = 0) = false := decide_eq_false hl
    by_cases ho : op = 0
    · rw [if_pos (Or.inl (by have := HOP.out; omega))] at hv
      subst ho
      by_cases hg : need ≤ (m : Int)
      · rw [if_pos hg] at hv
        subst hv
        first | (have g1 := decide_eq_false hg) | (have g1 := decide_eq_true hg)
        clear hg
        go_enter Tryd.func30, Tryd.ntmps30
        go_wp2_with fail
        go_quiet (fail)
        go_wp2_with fail
        go_quiet (fail)
        go_wp2_with fail
        go_ret
        exact ⟨rfl, by repeat (first | exact Below.refl _ _ | apply pw_below_drewN)⟩
      · rw [if_neg hg] at hv
        subst hv
        first | (have g1 := decide_eq_false hg) | (have g1 := decide_eq_true hg)
        clear hg
        go_enter Tryd.func30, Tryd.ntmps30
        go_wp2_with fail
        go_quiet (fail)
        go_wp2_with fail
        go_quiet (fail)
        go_wp2_with fail
        go_quiet (fail)
        go_wp2_with fail
        go_ret
        exact ⟨rfl, by repeat (first | exact Below.refl _ _ | apply pw_below_drewN)⟩
    · rw [if_neg (by have := HOP.out; omega)] at hv
      have y1 : (op == 0) = false := by simpa using ho
      have y2 : decide (op = 0) = false := decide_eq_false ho
      by_cases hf : (n : Int) - p < need
      · rw [if_pos hf] at hv
        have x1 : decide ((m : Int) + op < need) = true := decide_eq_true (by have := HOP.out; omega)
        have hg : ¬ need ≤ (m : Int) ∨ need ≤ (m : Int) := (Decidable.em _).symm
        clear hf
        rcases hg with hg | hg
        · subst hv
          first | (have g1 := decide_eq_false hg) | (have g1 := decide_eq_true hg)
          clear hg
          go_enter Tryd.func30, Tryd.ntmps30
          go_wp2_with fail
          go_quiet (fail)
          go_wp2_with fail
          go_quiet (fail)
          go_wp2_with fail
          go_quiet (fail)
          go_wp2_with fail
          go_ret
          exact ⟨rfl, by repeat (first | exact Below.refl _ _ | apply pw_below_drewN)⟩
        · subst hv
          first | (have g1 := decide_eq_false hg) | (have g1 := decide_eq_true hg)
          clear hg
          go_enter Tryd.func30, Tryd.ntmps30
          go_wp2_with fail
          go_quiet (fail)
          go_wp2_with fail
          go_quiet (fail)
          go_wp2_with fail
          go_quiet (fail)
          go_wp2_with fail
          go_ret
          exact ⟨rfl, by repeat (first | exact Below.refl _ _ | apply pw_below_drewN)⟩
      · rw [if_neg hf] at hv
        have x1 : decide ((m : Int) + op < need) = false := decide_eq_false (by have := HOP.out; omega)
        have hg : ¬ need ≤ (m : Int) ∨ need ≤ (m : Int) := (Decidable.em _).symm
        clear hf
        rcases hg with hg | hg
        · subst hv
          first | (have g1 := decide_eq_false hg) | (have g1 := decide_eq_true hg)
          clear hg
          go_enter Tryd.func30, Tryd.ntmps30
          go_wp2_with fail
          go_quiet (fail)
          go_wp2_with fail
          go_quiet (fail)
          go_wp2_with fail
          go_quiet (fail)
          go_wp2_with fail
          go_ret
          exact ⟨rfl, by repeat (first | exact Below.refl _ _ | apply pw_below_drewN)⟩
        · subst hv
          first | (have g1 := decide_eq_false hg) | (have g1 := decide_eq_true hg)
          clear hg
          go_enter Tryd.func30, Tryd.ntmps30
          go_wp2_with fail
          go_quiet (fail)
          go_wp2_with fail
          go_quiet (fail)
          go_wp2_with fail
          go_quiet (fail)
          go_wp2_with fail
          go_ret
          exact ⟨rfl, by repeat (first | exact Below.refl _ _ | apply pw_below_drewN)⟩
end
end Go.Proofs.YtfomajippdcaoaaDoor.Qu
