/-
  The guard's readers, walked: Came and Out.
-/
import Derived.Test.YtfomajippdcaoaaDoorGuard
namespace Go.Proofs.YtfomajippdcaoaaDoor.Gu
open Go.RowKit Go.Proofs.YtfomajippdcaoaaDoorW.PrintWords Go.Proofs.YtfomajippdcaoaaDoorW.PrintLast Go.Proofs.YtfomajippdcaoaaDoorW.PrintMore Go.Proofs.YtfomajippdcaoaaDoor.PSet Go.Proofs.YtfomajippdcaoaaDoor.Sc

/-- Came: a row of its own of those that came, and whether it is decided. -/
def CameIs (came : List Int) (is : Bool) (w : World) (e : Ending) (w' : World) : Prop := ∃ A n c, e = .returned (.tuple #[.slice A n c, .bool is]) ∧ Rn w' A n c came ∧ Below w.heap.size w w'
section
variable {g : Nat} {who came : List Int} {need : Int} {is : Bool} {w : World}
set_option maxRecDepth 100000 in
theorem came_is (hs : St w g who need came is) : Calls Tryd.prog 20 #[.pointer (some ⟨g, 0, none⟩)] w (CameIs came is w) := by
  obtain ⟨A1, B1, n1, c1, m1, d1, hs⟩ := hs
  have S0 := Aside0.mk hs
  clear hs
  obtain ⟨d0, d1, d2, d3, d4, d5⟩ := cells_of S0.out.blk
  go_enter Tryd.func20, Tryd.ntmps20
  go_upto_region 3 with (fail)
  go_region_with (go_at_call 43; (with_reducible refine (clone_all (Rn.below S0.out.came (by first | exact Below.refl _ _ | exact below_drew (Below.refl _ _))) S0.out.m).mono ?_); rintro e w3 ⟨v, rfl, hr, hb⟩; obtain ⟨A3, c3, rfl, hR⟩ := Rn.of_R hr; have R3 := Aside0.mk hR; have T3 := Aside0.mk (below_step (w := w) (by first | exact Below.refl _ _ | exact below_drew (Below.refl _ _)) hb); have S3 := Aside0.mk (S0.out.below T3.out); obtain ⟨e0, e1, e2, e3, e4, e5⟩ := cells_of S3.out.blk; clear hr hb hR)
  all_goals go_wp2_with fail
  all_goals go_ret2
  all_goals exact ⟨_, _, _, rfl, R3.out.below (by first | exact Below.refl _ _ | exact below_drew (Below.refl _ _)), by first | exact T3.out | exact below_drew T3.out⟩

/-- which secret of a client may go out -/
def outV (who came : List Int) (is : Bool) (id : Int) : Int :=
  if is = false then 0 else if decide (0 ≤ id ∧ id < 64 ∧ id ∈ who) = false then 0 else if decide (0 ≤ id ∧ id < 64 ∧ id ∈ came) = true then 1 else 2
set_option maxRecDepth 100000 in
theorem out_is (id v : Int) (hs : St w g who need came is) (hv : outV who came is id = v) : Calls Tryd.prog 18 #[.pointer (some ⟨g, 0, none⟩), .int .i64 id] w (Sc.Told (.int .i64 v) w) := by
  obtain ⟨A1, B1, n1, c1, m1, d1, hs⟩ := hs
  have S0 := Aside0.mk hs
  clear hs
  obtain ⟨d0, d1, d2, d3, d4, d5⟩ := cells_of S0.out.blk
  unfold outV at hv
  cases is with
  | false =>
    rw [if_pos rfl] at hv
    subst hv
    go_enter Tryd.func18, Tryd.ntmps18
    go_wp2_with fail
    go_ret
    exact ⟨rfl, Below.refl _ _⟩
  | true =>
    rw [if_neg (by decide)] at hv
    obtain ⟨b1, hb1⟩ : ∃ b, decide (0 ≤ id ∧ id < 64 ∧ id ∈ who) = b := ⟨_, rfl⟩
    obtain ⟨b2, hb2⟩ : ∃ b, decide (0 ≤ id ∧ id < 64 ∧ id ∈ came) = b := ⟨_, rfl⟩
    rw [hb1, hb2] at hv
    have H1 := Aside0.mk hb1
    have H2 := Aside0.mk hb2
    clear hb1 hb2
    cases b1 with
    | false =>
      rw [if_pos rfl] at hv
      subst hv
      go_enter Tryd.func18, Tryd.ntmps18
      go_wp2_with (go_at_call 46; (with_reducible refine (has_is false _ S0.out.who S0.out.n H1.out).mono ?_); rintro e w1 ⟨rfl, hb⟩; have T1 := Aside0.mk hb; clear hb)
      go_ret
      exact ⟨rfl, T1.out⟩
    | true =>
      rw [if_neg (by decide)] at hv
      cases b2 with
      | false =>
        rw [if_neg (by decide)] at hv
        subst hv
        go_enter Tryd.func18, Tryd.ntmps18
        go_wp2_with (first | (go_at_call 46; (with_reducible refine (has_is true _ S0.out.who S0.out.n H1.out).mono ?_); rintro e w1 ⟨rfl, hb⟩; have S1 := Aside0.mk (S0.out.below hb); have T1 := Aside0.mk hb; clear hb; clear d0 d1 d2 d3 d4 d5; obtain ⟨d0, d1, d2, d3, d4, d5⟩ := cells_of S1.out.blk) | (go_at_call 46; (with_reducible refine (has_is false _ S1.out.came S1.out.m H2.out).mono ?_); rintro e w2 ⟨rfl, hb⟩; have T2 := Aside0.mk (below_step T1.out hb); clear hb))
        go_ret
        exact ⟨rfl, T2.out⟩
      | true =>
        rw [if_pos rfl] at hv
        subst hv
        go_enter Tryd.func18, Tryd.ntmps18
        go_wp2_with (first | (go_at_call 46; (with_reducible refine (has_is true _ S0.out.who S0.out.n H1.out).mono ?_); rintro e w1 ⟨rfl, hb⟩; have S1 := Aside0.mk (S0.out.below hb); have T1 := Aside0.mk hb; clear hb; clear d0 d1 d2 d3 d4 d5; obtain ⟨d0, d1, d2, d3, d4, d5⟩ := cells_of S1.out.blk) | (go_at_call 46; (with_reducible refine (has_is true _ S1.out.came S1.out.m H2.out).mono ?_); rintro e w2 ⟨rfl, hb⟩; have T2 := Aside0.mk (below_step T1.out hb); clear hb))
        go_ret
        exact ⟨rfl, T2.out⟩
end
end Go.Proofs.YtfomajippdcaoaaDoor.Gu
