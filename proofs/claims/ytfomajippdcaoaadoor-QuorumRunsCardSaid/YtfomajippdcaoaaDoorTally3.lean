/-
  The tally's own functions (quorum), walked: Tick, In, Lacks, New, and all of them at nil.
-/
import Derived.Test.YtfomajippdcaoaaDoorTally2
namespace Go.Proofs.YtfomajippdcaoaaDoor.Qu
open Go.RowKit Go.Proofs.YtfomajippdcaoaaDoorW.PrintWords Go.Proofs.YtfomajippdcaoaaDoorW.PrintLast Go.Proofs.YtfomajippdcaoaaDoorW.PrintMore Go.Proofs.YtfomajippdcaoaaDoor.PSet Go.Proofs.YtfomajippdcaoaaDoor.Sc

/-- a list that is a set in order -/
def SetL (l : List Int) : Prop := sel (fun n => decide ((n : Int) ∈ l)) = l
theorem SetL.nil : SetL [] := by
  unfold SetL sel
  rw [List.filter_eq_nil_iff.2 (by simp)]
  rfl
theorem SetL.more (l : List Int) (id : Int) : SetL (more l id) := sel_sel _
theorem SetL.either {l : List Int} (h : SetL l) : (sel fun n => decide ((n : Int) ∈ l) || decide ((n : Int) ∈ ([] : List Int))) = l := by
  refine Eq.trans (sel_congr (fun n _ => ?_)) h
  simp
theorem SetL.len {l : List Int} (h : SetL l) : l.length ≤ 64 := by
  rw [← h]
  exact sel_len _
theorem SetL.of_inc {l : List Int} (h : inc (-1) l = true) : SetL l := sel_inc l h

/-- what Tick does -/
def DidT (av : Nat → Prop) (t : Nat) (who inn gone : List Int) (need left : Int) (w : World) (e : Ending) (w' : World) : Prop :=
  e = .returned (.tuple #[]) ∧ Tl w' av t who inn gone need (if st who inn gone need left = 0 then left - 1 else left) ∧ w.grownBy w' (some t)
section
variable {w : World} {av : Nat → Prop} {t : Nat} {who inn gone : List Int} {need left : Int}
set_option maxRecDepth 100000 in
set_option maxHeartbeats 1000000 in
theorem tick_is (hs : Tl w av t who inn gone need left) (h0 : 0 ≤ left) (h1 : left ≤ 1000) : Calls Tryd.prog 26 #[.pointer (some ⟨t, 0, none⟩)] w (DidT av t who inn gone need left w) := by
  have TL := Aside0.mk hs
  have hv := stq_vals who.length inn.length gone.length need left
  obtain ⟨v, hst⟩ : ∃ v, st who inn gone need left = v := ⟨_, rfl⟩
  rw [show stq who.length inn.length gone.length need left = v from hst] at hv
  have ST := Aside0.mk hst
  obtain ⟨A, B, C, n, c, m, d, p, q, hs⟩ := hs
  have S0 := Aside0.mk hs
  obtain ⟨c0, c1, c2, c3, c4, f1, f2, f4⟩ := cells_of S0.out.blk
  clear hs hst
  have HB := Aside0.mk (Below.refl w.heap.size w)
  have hw : wrap64 (left - 1) = left - 1 := wrap64_in' _ (by omega) (by omega)
  rcases hv with rfl | rfl | rfl
  · go_enter Tryd.func26, Tryd.ntmps26
    go_wp2_with (go_at_call 30; (with_reducible refine (state_is _ (TL.out.below HB.out) ST.out).mono ?_); rintro e w1 ⟨rfl, hb⟩; have S1_ := Aside0.mk (S0.out.below hb); clear S0 c0 c1 c2 c3 c4 f1 f2 f4; have S0 := S1_; clear S1_; obtain ⟨c0, c1, c2, c3, c4, f1, f2, f4⟩ := cells_of S0.out.blk; have T1_ := Aside0.mk (below_step HB.out hb); clear HB; have HB := T1_; clear T1_ hb)
    go_end0
    obtain ⟨p1, p2⟩ := S0.out.put4 (left - 1)
    exact ⟨rfl, by rw [if_pos ST.out]; exact p1, grown_trans (grown_of_below HB.out _) p2⟩
  · go_enter Tryd.func26, Tryd.ntmps26
    go_wp2_with (go_at_call 30; (with_reducible refine (state_is _ (TL.out.below HB.out) ST.out).mono ?_); rintro e w1 ⟨rfl, hb⟩; have S1_ := Aside0.mk (S0.out.below hb); clear S0 c0 c1 c2 c3 c4 f1 f2 f4; have S0 := S1_; clear S1_; obtain ⟨c0, c1, c2, c3, c4, f1, f2, f4⟩ := cells_of S0.out.blk; have T1_ := Aside0.mk (below_step HB.out hb); clear HB; have HB := T1_; clear T1_ hb)
    go_end0
    exact ⟨rfl, by rw [if_neg (by rw [ST.out]; decide)]; exact TL.out.below HB.out, grown_of_below HB.out _⟩
  · go_enter Tryd.func26, Tryd.ntmps26
    go_wp2_with (go_at_call 30; (with_reducible refine (state_is _ (TL.out.below HB.out) ST.out).mono ?_); rintro e w1 ⟨rfl, hb⟩; have S1_ := Aside0.mk (S0.out.below hb); clear S0 c0 c1 c2 c3 c4 f1 f2 f4; have S0 := S1_; clear S1_; obtain ⟨c0, c1, c2, c3, c4, f1, f2, f4⟩ := cells_of S0.out.blk; have T1_ := Aside0.mk (below_step HB.out hb); clear HB; have HB := T1_; clear T1_ hb)
    go_end0
    exact ⟨rfl, by rw [if_neg (by rw [ST.out]; decide)]; exact TL.out.below HB.out, grown_of_below HB.out _⟩

set_option maxRecDepth 100000 in
theorem in_is (hs : Tl w av t who inn gone need left) (hi : SetL inn) : Calls Tryd.prog 31 #[.pointer (some ⟨t, 0, none⟩)] w (MadeR inn w) := by
  obtain ⟨A, B, C, n, c, m, d, p, q, hs⟩ := hs
  have S0 := Aside0.mk hs
  obtain ⟨c0, c1, c2, c3, c4, f1, f2, f4⟩ := cells_of S0.out.blk
  clear hs
  go_enter Tryd.func31, Tryd.ntmps31
  go_wp2_with (go_at_call 50; (with_reducible refine (either_is S0.out.inn S0.out.lm (Rn.nil _) (by decide)).mono ?_); rintro e w1 ⟨A1, n1, c1, rfl, hr, hb⟩)
  go_ret
  exact ⟨_, _, _, rfl, by rw [hi.either] at hr; exact hr, hb⟩
set_option maxRecDepth 100000 in
theorem lacks_is (hs : Tl w av t who inn gone need left) : Calls Tryd.prog 32 #[.pointer (some ⟨t, 0, none⟩)] w (MadeR (sel (pick 2 who inn)) w) := by
  obtain ⟨A, B, C, n, c, m, d, p, q, hs⟩ := hs
  have S0 := Aside0.mk hs
  obtain ⟨c0, c1, c2, c3, c4, f1, f2, f4⟩ := cells_of S0.out.blk
  clear hs
  go_enter Tryd.func32, Tryd.ntmps32
  go_upto_region 3 with (fail)
  go_region_with (go_at_call 44; (with_reducible refine (less_is (S0.out.who.below (by first | exact Below.refl _ _ | exact below_drew (Below.refl _ _))) S0.out.ln (S0.out.inn.below (by first | exact Below.refl _ _ | exact below_drew (Below.refl _ _))) S0.out.lm).mono ?_); rintro e w1 ⟨A1, n1, c1, rfl, hr, hb⟩; have R1 := Aside0.mk hr; have T1 := Aside0.mk (below_step (w := w) (by first | exact Below.refl _ _ | exact below_drew (Below.refl _ _)) hb); clear hr hb)
  all_goals go_wp2_with fail
  all_goals go_ret
  all_goals exact ⟨_, _, _, rfl, R1.out, T1.out⟩
end

/-! ### New -/
def NewIs (who : List Int) (need left : Int) (w : World) (e : Ending) (w' : World) : Prop :=
  ∃ t, e = .returned (.tuple #[.pointer (some ⟨t, 0, none⟩), .nilIface]) ∧ Tl w' (fun k => k = t) t who [] [] need left ∧ Below w.heap.size w w' ∧ w.heap.size ≤ t
set_option maxRecDepth 100000 in
theorem new_ok {A : Option Addr} {n c : Nat} {l : List Int} {w : World} (need term : Int) (h : Rn w A n c l) (hn : n ≤ 1000) (hi : inc (-1) l = true) (h1 : 1 ≤ need) (h2 : need ≤ n) (h3 : 1 ≤ term) (h4 : term ≤ 1000) :
    Calls Tryd.prog 34 #[.slice A n c, .int .i64 need, .int .i64 term] w (NewIs l need term w) := by
  have H := Aside0.mk h
  have HN := Aside0.mk hn
  have HI := Aside0.mk hi
  clear h hn hi
  have q1 : decide (need < 1) = false := decide_eq_false (by omega)
  have q2 : decide ((n : Int) < need) = false := decide_eq_false (by omega)
  have q3 : decide (term < 1) = false := decide_eq_false (by omega)
  have q4 : decide (1000 < term) = false := decide_eq_false (by omega)
  go_enter Tryd.func34, Tryd.ntmps34
  go_wp2_with (first | (go_at_call 42; (with_reducible refine (check_ok H.out HN.out HI.out).mono ?_); rintro e w1 ⟨rfl, hb⟩; have B1 := Aside0.mk hb; clear hb) | (go_at_call 50; (with_reducible refine (either_f (H.out.below B1.out) HN.out (Rn.nil _) (by decide)).mono ?_); rintro e w2 ⟨A2, n2, c2, rfl, hr, hb, hf⟩; have R2 := Aside0.mk hr; have B2 := Aside0.mk hb; have F2 := Aside0.mk hf; clear hr hb hf))
  go_ret2
  have hR := R2.out
  rw [(SetL.of_inc HI.out).either] at hR
  have hlt := hR.lt
  have hb2 : Below w.heap.size w w2 := below_step B1.out B2.out
  have hsz := (SetL.of_inc HI.out).len
  have hb3 := below_alloc (Below.refl w2.heap.size w2) (.cells #[.slice A2 n2 c2, .slice none 0 0, .slice none 0 0, .int .i64 need, .int .i64 term] 85)
  exact ⟨_, rfl, ⟨A2, none, none, n2, c2, 0, 0, 0, 0, blk_new _ _, hR.below hb3, Rn.nil _, Rn.nil _, by have := hR.len; omega, by omega, by omega, rfl, fun k hk => by rw [hk]; show w2.heap.size < (w2.heap.push _).size; simp, fun hp ad e he => by have := hlt hp ad e; omega, fun hp => absurd hp (Nat.lt_irrefl 0), fun hp => absurd hp (Nat.lt_irrefl 0)⟩, below_alloc hb2 _, hb2.size⟩
set_option maxRecDepth 100000 in
theorem new_no {A : Option Addr} {n c : Nat} {l : List Int} {w : World} (need term : Int) (h : Rn w A n c l) (hn : n ≤ 1000) (hi : inc (-1) l = false) :
    Calls Tryd.prog 34 #[.slice A n c, .int .i64 need, .int .i64 term] w (Sc.Told (.tuple #[.pointer none, .iface 75 (.int .i64 1)]) w) := by
  have H := Aside0.mk h
  have HN := Aside0.mk hn
  have HI := Aside0.mk hi
  clear h hn hi
  go_enter Tryd.func34, Tryd.ntmps34
  go_wp2_with (go_at_call 42; (with_reducible refine (check_no H.out HN.out HI.out).mono ?_); rintro e w1 ⟨rfl, hb⟩; have B1 := Aside0.mk hb; clear hb)
  go_ret2
  exact ⟨rfl, B1.out⟩
set_option maxRecDepth 100000 in
theorem new_bad {A : Option Addr} {n c : Nat} {l : List Int} {w : World} (need term : Int) (h : Rn w A n c l) (hn : n ≤ 1000) (hi : inc (-1) l = true) (hb : need < 1 ∨ (n : Int) < need ∨ term < 1 ∨ 1000 < term) :
    Calls Tryd.prog 34 #[.slice A n c, .int .i64 need, .int .i64 term] w (Sc.Told (.tuple #[.pointer none, .iface 75 (.int .i64 1)]) w) := by
  have H := Aside0.mk h
  have HN := Aside0.mk hn
  have HI := Aside0.mk hi
  clear h hn hi
  by_cases h1 : need < 1
  · clear hb
    go_enter Tryd.func34, Tryd.ntmps34
    go_wp2_with (go_at_call 42; (with_reducible refine (check_ok H.out HN.out HI.out).mono ?_); rintro e w1 ⟨rfl, hb⟩; have B1 := Aside0.mk hb; clear hb)
    go_ret2
    exact ⟨rfl, B1.out⟩
  · by_cases h2 : (n : Int) < need
    · clear hb
      go_enter Tryd.func34, Tryd.ntmps34
      go_wp2_with (go_at_call 42; (with_reducible refine (check_ok H.out HN.out HI.out).mono ?_); rintro e w1 ⟨rfl, hb⟩; have B1 := Aside0.mk hb; clear hb)
      go_ret2
      exact ⟨rfl, B1.out⟩
    · by_cases h3 : term < 1
      · clear hb
        go_enter Tryd.func34, Tryd.ntmps34
        go_wp2_with (go_at_call 42; (with_reducible refine (check_ok H.out HN.out HI.out).mono ?_); rintro e w1 ⟨rfl, hb⟩; have B1 := Aside0.mk hb; clear hb)
        go_ret2
        exact ⟨rfl, B1.out⟩
      · have h4 : 1000 < term := by omega
        clear hb
        go_enter Tryd.func34, Tryd.ntmps34
        go_wp2_with (go_at_call 42; (with_reducible refine (check_ok H.out HN.out HI.out).mono ?_); rintro e w1 ⟨rfl, hb⟩; have B1 := Aside0.mk hb; clear hb)
        go_ret2
        exact ⟨rfl, B1.out⟩

/-! ### at nil -/
theorem tick_nil (w : World) : Calls Tryd.prog 26 #[.pointer none] w (Sc.Told (.tuple #[]) w) := by
  go_enter Tryd.func26, Tryd.ntmps26
  go_wp2
  go_end0
  exact ⟨rfl, Below.refl _ _⟩
theorem asked_nil (w : World) : Calls Tryd.prog 49 #[.pointer none, .int .i64 1] w (Sc.Told (.iface 75 (.int .i64 1)) w) := by
  go_enter Tryd.func49, Tryd.ntmps49
  go_wp2
  go_ret
  exact ⟨rfl, Below.refl _ _⟩
theorem came_nil (w : World) : Calls Tryd.prog 28 #[.pointer none, .int .i64 1] w (Sc.Told (.iface 75 (.int .i64 1)) w) := by
  go_enter Tryd.func28, Tryd.ntmps28
  go_wp2_with (go_at_call 49; (with_reducible refine (asked_nil _).mono ?_); rintro e w1 ⟨rfl, hb⟩)
  go_ret
  exact ⟨rfl, hb⟩
theorem gone_nil (w : World) : Calls Tryd.prog 29 #[.pointer none, .int .i64 1] w (Sc.Told (.iface 75 (.int .i64 1)) w) := by
  go_enter Tryd.func29, Tryd.ntmps29
  go_wp2_with (go_at_call 49; (with_reducible refine (asked_nil _).mono ?_); rintro e w1 ⟨rfl, hb⟩)
  go_ret
  exact ⟨rfl, hb⟩
theorem state_nil (w : World) : Calls Tryd.prog 30 #[.pointer none] w (Sc.Told (.int .i64 2) w) := by
  go_enter Tryd.func30, Tryd.ntmps30
  go_wp2
  go_ret
  exact ⟨rfl, Below.refl _ _⟩
theorem in_nil (w : World) : Calls Tryd.prog 31 #[.pointer none] w (Sc.Told (.slice none 0 0) w) := by
  go_enter Tryd.func31, Tryd.ntmps31
  go_wp2
  go_ret
  exact ⟨rfl, Below.refl _ _⟩
theorem lacks_nil (w : World) : Calls Tryd.prog 32 #[.pointer none] w (Sc.Told (.slice none 0 0) w) := by
  go_enter Tryd.func32, Tryd.ntmps32
  go_wp2
  go_ret
  exact ⟨rfl, Below.refl _ _⟩
end Go.Proofs.YtfomajippdcaoaaDoor.Qu
