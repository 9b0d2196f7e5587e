/-
  Three slices of rows of the call's own, each in blocks of its own: one is appended to, the others stay.
-/
import Derived.Test.YtbfgppecpkfcnaaDoorOrderFacts
namespace Go.Proofs.YtbfgppecpkfcnaaDoor.Vo
open Go.RowKit Go.Proofs.YtbfgppecpkfcnaaDoorW.PrintWords Go.Proofs.YtbfgppecpkfcnaaDoorW.PrintLast Go.Proofs.YtbfgppecpkfcnaaDoorW.PrintMore Go.Proofs.YtbfgppecpkfcnaaDoor.PVec Go.Proofs.YtbfgppecpkfcnaaDoor.Vt

abbrev KR : Kd (List Int) := Kd.slice 34 (Kd.int .u32)
structure Th (w0 w : World) (S1 S2 S3 : Nat → Prop) (v1 v2 v3 : Value) (x1 x2 x3 : List (List Int)) : Prop where
  r1 : KR.R 36 w w0.heap.size S1 v1 x1
  r2 : KR.R 36 w w0.heap.size S2 v2 x2
  r3 : KR.R 36 w w0.heap.size S3 v3 x3
  b1 : ∀ k, S1 k → k < w.heap.size
  b2 : ∀ k, S2 k → k < w.heap.size
  b3 : ∀ k, S3 k → k < w.heap.size
  d12 : ∀ k, S1 k → ¬ S2 k
  d23 : ∀ k, S2 k → ¬ S3 k
  d31 : ∀ k, S3 k → ¬ S1 k
  bel : Below w0.heap.size w0 w
section
variable {w0 w W w1 : World} {S1 S2 S3 : Nat → Prop} {v1 v2 v3 v : Value} {x1 x2 x3 x : List (List Int)}
theorem Th.rot (h : Th w0 w S1 S2 S3 v1 v2 v3 x1 x2 x3) : Th w0 w S2 S3 S1 v2 v3 v1 x2 x3 x1 := ⟨h.r2, h.r3, h.r1, h.b2, h.b3, h.b1, h.d23, h.d31, h.d12, h.bel⟩
theorem Th.below (h : Th w0 w S1 S2 S3 v1 v2 v3 x1 x2 x3) (hb : Below w.heap.size w w1) : Th w0 w1 S1 S2 S3 v1 v2 v3 x1 x2 x3 :=
  ⟨Kd.R_below h.r1 hb, Kd.R_below h.r2 hb, Kd.R_below h.r3 hb, fun k hk => Nat.lt_of_lt_of_le (h.b1 k hk) hb.size, fun k hk => Nat.lt_of_lt_of_le (h.b2 k hk) hb.size, fun k hk => Nat.lt_of_lt_of_le (h.b3 k hk) hb.size, h.d12, h.d23, h.d31, below_step h.bel hb⟩
theorem Th.nil (w : World) : Th w w (fun _ => False) (fun _ => False) (fun _ => False) (.slice none 0 0) (.slice none 0 0) (.slice none 0 0) [] [] [] :=
  ⟨Kd.R_nil _ _ _ _ _, Kd.R_nil _ _ _ _ _, Kd.R_nil _ _ _ _ _, fun _ h => h.elim, fun _ h => h.elim, fun _ h => h.elim, fun _ h => h.elim, fun _ h => h.elim, fun _ h => h.elim, Below.refl _ _⟩
/-- the first is appended to (W: ahead of it; w: when the row began to be made) -/
theorem Th.step (h : Th w0 w S1 S2 S3 v1 v2 v3 x1 x2 x3) (hW : Below w.heap.size w W) (hr : KR.R 36 w1 w0.heap.size (fun k => S1 k ∨ w.heap.size ≤ k) v x) (hb : Below w0.heap.size w0 w1) (hg : W.grownBy w1 v1.ownBlock) :
    Th w0 w1 (fun k => (S1 k ∨ w.heap.size ≤ k) ∧ k < w1.heap.size) S2 S3 v v2 v3 x x2 x3 := by
  have hsz : w.heap.size ≤ w1.heap.size := Nat.le_trans hW.size hg.size
  refine ⟨Kd.R_mono (Kd.R_bound hr) (fun k hk => ⟨hk.1, hk.2.2.1⟩), Kd.R_grown (Kd.R_below h.r2 hW) hg (fun k hk e => h.d12 k (h.r1.1 k e.symm) hk), Kd.R_grown (Kd.R_below h.r3 hW) hg (fun k hk e => h.d31 k hk (h.r1.1 k e.symm)), fun k hk => hk.2, fun k hk => Nat.lt_of_lt_of_le (h.b2 k hk) hsz, fun k hk => Nat.lt_of_lt_of_le (h.b3 k hk) hsz, fun k hk h2 => ?_, h.d23, fun k h3 hk => ?_, hb⟩
  · rcases hk.1 with h1 | h1
    · exact h.d12 k h1 h2
    · have := h.b2 k h2; omega
  · rcases hk.1 with h1 | h1
    · exact h.d31 k h3 h1
    · have := h.b3 k h3; omega
theorem rowM {b : Nat} {u : Value} {l : List Int} (h : Kd.R (Kd.int .u32) 34 W b (fun _ => True) u l) (hb : w0.heap.size ≤ b) : KR.M W w0.heap.size (fun k => b ≤ k) l [u] :=
  ⟨u, rfl, Kd.R_lower (Kd.R_mono (Kd.R_bound h) (fun _ hk => hk.2.1)) hb⟩
theorem Th.own (h : Th w0 w S1 S2 S3 v1 v2 v3 x1 x2 x3) : ∀ k, w.heap.size ≤ k → (S1 k ∨ w.heap.size ≤ k) ∧ some k ≠ v1.ownBlock :=
  fun k hk => ⟨Or.inr hk, fun e => by have := h.b1 k (h.r1.1 k e.symm); omega⟩
theorem Th.wide (h : Th w0 w S1 S2 S3 v1 v2 v3 x1 x2 x3) (hW : Below w.heap.size w W) : KR.R 36 W w0.heap.size (fun k => S1 k ∨ w.heap.size ≤ k) v1 x1 := Kd.R_mono (Kd.R_below h.r1 hW) (fun _ hk => Or.inl hk)
end

/-- a slice of arrays of eight numbers in memory -/
def Rows8 (w : World) (A : Option Addr) (l : List (List Int)) : Prop := 0 < l.length → ∃ ad, A = some ad ∧ ∀ i, i < l.length → Rn 8 w (some (ad.add (i * 8))) (l.getD i [])
/-- vec.Times: a row of its own -/
theorem times_o {A0 : Option Addr} {c0 : Nat} {l0 : List Int} {w : World} (k : Int) (h0 : Rn 8 w A0 l0) (hc0 : 8 ≤ c0) :
    Calls Tryd.prog 33 #[.slice A0 8 c0, .int .u32 k] w fun e w' => ∃ A c, e = .returned (.tuple #[.slice A 8 c, .nilIface]) ∧ Kd.R (Kd.int .u32) 34 w' w.heap.size (fun _ => True) (.slice A 8 c) (tms k l0) ∧ Below w.heap.size w w' := by
  obtain ⟨h0, e0⟩ := h0
  rw [← e0] at hc0
  have h := vec_Times.calls A0 c0 l0 k (tms k l0) none w h0 hc0 (by unfold vec_Times.f; rw [if_pos (by omega)]; rfl)
  rw [e0] at h
  refine h.mono ?_
  rintro e w' ⟨v, rfl, hr, hb⟩
  obtain ⟨A, c, rfl⟩ := Kd.R_slice hr
  have e1 : (tms k l0).length = 8 := by rw [tms_len, e0]
  rw [e1] at hr ⊢
  exact ⟨A, c, rfl, hr, hb⟩
/-- vec.Sum of rows of eight -/
theorem sum_is {A : Option Addr} {n c : Nat} {l : List (List Int)} {w : World} (hr : KR.C w A n l) (hl : l.length = n) (hc : n ≤ c) (h8 : Eight l) (hn : n ≤ 1000) :
    Calls Tryd.prog 38 #[.slice A n c, .int .i64 8] w (MadeN 8 .nilIface (tot l) w) := by
  subst hl
  exact (vec_Sum.calls 1001 A c l 8 (tot l) none w hr hc (sum_tells 1001 l h8 hn (by omega))).mono fun _ _ h => (made_of h).n (tot_len l)
end Go.Proofs.YtbfgppecpkfcnaaDoor.Vo
