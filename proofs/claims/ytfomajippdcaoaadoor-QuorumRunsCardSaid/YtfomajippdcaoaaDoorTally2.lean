/-
  The tally's own functions (quorum), walked, further: who may be told of, Came, Gone, Tick, In, Lacks, New.
-/
import Derived.Test.YtfomajippdcaoaaDoorTally
namespace Go.Proofs.YtfomajippdcaoaaDoor.Qu
open Go.RowKit Go.Proofs.YtfomajippdcaoaaDoorW.PrintWords Go.Proofs.YtfomajippdcaoaaDoorW.PrintLast Go.Proofs.YtfomajippdcaoaaDoorW.PrintMore Go.Proofs.YtfomajippdcaoaaDoor.PSet Go.Proofs.YtfomajippdcaoaaDoor.Sc

/-! ### lists of numbers from 0 to 63 in order -/
theorem filt_none (l : List Int) (r : List Nat) (h : ∀ n ∈ r, ¬ (n : Int) ∈ l) : r.filter (fun (n : Nat) => decide ((n : Int) ∈ l)) = [] := by
  rw [List.filter_eq_nil_iff]
  intro n hn
  simpa using h n hn
theorem sel_inc0 (l : List Int) : ∀ (a : Nat), a ≤ 64 → inc ((a : Int) - 1) l = true → ((List.range' a (64 - a)).filter fun (n : Nat) => decide ((n : Int) ∈ l)).map (fun (n : Nat) => (n : Int)) = l := by
  induction l with
  | nil =>
    intro a _ _
    rw [filt_none [] _ (fun n _ h => by cases h)]
    rfl
  | cons x l ih =>
    intro a ha h
    simp only [inc, Bool.and_eq_true, decide_eq_true_eq] at h
    obtain ⟨⟨h1, h2⟩, h3⟩ := h
    obtain ⟨y, rfl⟩ := Int.eq_ofNat_of_zero_le (show 0 ≤ x by omega)
    have e1 : 64 - a = (y - a) + (64 - y) := by omega
    have e2 : 64 - y = (64 - (y + 1)) + 1 := by omega
    have h4 := ih (y + 1) (by omega) (by rw [show (((y + 1 : Nat) : Int) - 1) = (y : Int) by omega]; exact h3)
    have hge := fun z hz => inc_ge l (y : Int) z h3 hz
    rw [e1, ← List.range'_append_1, List.filter_append, List.map_append, show a + (y - a) = y by omega, e2, List.range'_succ]
    rw [filt_none _ (List.range' a (y - a)) (fun n hn hm => by
      rw [List.mem_range'_1] at hn
      rcases List.mem_cons.1 hm with h | h
      · omega
      · have := hge _ h; omega)]
    rw [List.filter_cons, if_pos (by simp)]
    simp only [List.map_nil, List.nil_append, List.map_cons]
    congr 1
    rw [← h4]
    congr 1
    rw [h4]
    refine List.filter_congr (fun n hn => ?_)
    rw [List.mem_range'_1] at hn
    have : ¬ (n : Int) = (y : Int) := by omega
    simp [this]
theorem sel_inc (l : List Int) (h : inc (-1) l = true) : sel (fun n => decide ((n : Int) ∈ l)) = l := by
  have := sel_inc0 l 0 (by omega) (by simpa using h)
  rwa [← List.range_eq_range'] at this
theorem mem_sel (P : Nat → Bool) (x : Int) : x ∈ sel P ↔ 0 ≤ x ∧ x < 64 ∧ P x.toNat = true := by
  unfold sel
  simp only [List.mem_map, List.mem_filter, List.mem_range]
  constructor
  · rintro ⟨n, ⟨h1, h2⟩, rfl⟩
    exact ⟨by omega, by omega, by simpa using h2⟩
  · rintro ⟨h1, h2, h3⟩
    exact ⟨x.toNat, ⟨by omega, h3⟩, by omega⟩
theorem sel_sel (P : Nat → Bool) : sel (fun n => decide ((n : Int) ∈ sel P)) = sel P := by
  refine sel_congr (fun n hn => ?_)
  have h : ((n : Int) ∈ sel P) ↔ P n = true := by
    rw [mem_sel]
    simp
    omega
  cases hp : P n with
  | true => exact decide_eq_true (h.2 hp)
  | false => exact decide_eq_false (fun h1 => by rw [h.1 h1] at hp; cases hp)

/-! ### Either, its row new -/
def MadeF (xs : List Int) (w : World) (e : Ending) (w' : World) : Prop := ∃ A n c, e = .returned (.slice A n c) ∧ Rn w' A n c xs ∧ Below w.heap.size w w' ∧ (0 < n → ∀ ad, A = some ad → w.heap.size ≤ ad.block)
theorem either_f {n c n1 c1 : Nat} {A B : Option Addr} {l m : List Int} {w : World} (h : Rn w A n c l) (hl : n ≤ 1000) (h1 : Rn w B n1 c1 m) (hl1 : n1 ≤ 1000) : Calls Tryd.prog 50 #[.slice A n c, .slice B n1 c1] w (MadeF (sel fun n => decide ((n : Int) ∈ l) || decide ((n : Int) ∈ m)) w) := by
  obtain ⟨h, rfl, hc⟩ := h
  obtain ⟨h1, rfl, hc1⟩ := h1
  refine (set_Either.calls 1001 A c l B c1 m _ w h hc h1 hc1 (either_tells 1001 l m hl hl1 (by omega))).mono ?_
  rintro e w' ⟨v, rfl, hr, hb⟩
  obtain ⟨A, c, rfl, hR⟩ := Rn.of_R hr
  refine ⟨A, _, c, rfl, hR, hb, ?_⟩
  rintro _ ad rfl
  exact Kd.R_base hr ad.block (by simp [Value.ownBlock])

def st (who inn gone : List Int) (need left : Int) : Int := stq who.length inn.length gone.length need left
def errV (c : Int) : Value := if c = 0 then .nilIface else .iface 75 (.int .i64 c)
theorem num_is (c : Int) (w : World) (hG : As.LaidG w) : Calls Tryd.prog 27 #[errV c] w (Sc.Told (.int .i64 c) w) := by
  unfold errV
  by_cases h : c = 0
  · subst h
    rw [if_pos rfl]
    exact As.num27_nil w
  · rw [if_neg h]
    exact As.num27_some c w hG
/-- the code of what Came and Gone tell -/
def acode (who inn gone : List Int) (need left id : Int) : Int :=
  if st who inn gone need left = 0 then (if decide (0 ≤ id ∧ id < 64 ∧ id ∈ who) = true then (if decide (0 ≤ id ∧ id < 64 ∧ id ∈ inn) = true then 8 else if decide (0 ≤ id ∧ id < 64 ∧ id ∈ gone) = true then 8 else 0) else 6) else 9
theorem stq_vals (n m p : Nat) (need left : Int) : stq n m p need left = 0 ∨ stq n m p need left = 1 ∨ stq n m p need left = 2 := by
  unfold stq
  repeat' split
  all_goals simp
section
variable {w : World} {av : Nat → Prop} {t : Nat} {who inn gone : List Int} {need left : Int}
theorem state_is (v : Int) (hs : Tl w av t who inn gone need left) (hv : st who inn gone need left = v) : Calls Tryd.prog 30 #[.pointer (some ⟨t, 0, none⟩)] w (Sc.Told (.int .i64 v) w) := by
  obtain ⟨A, B, C, n, c, m, d, p, q, h⟩ := hs
  refine state0 v h ?_
  rw [← hv, st, h.who.len, h.inn.len, h.gone.len]

set_option maxRecDepth 100000 in
set_option maxHeartbeats 1000000 in
theorem asked_is (id : Int) (hs : Tl w av t who inn gone need left) : Calls Tryd.prog 49 #[.pointer (some ⟨t, 0, none⟩), .int .i64 id] w (Sc.Told (errV (acode who inn gone need left id)) w) := by
  obtain ⟨cd, hcd⟩ : ∃ cd, acode who inn gone need left id = cd := ⟨_, rfl⟩
  rw [hcd]
  have TL := Aside0.mk hs
  obtain ⟨A, B, C, n, c, m, d, p, q, hs⟩ := hs
  have S0 := Aside0.mk hs
  obtain ⟨c0, c1, c2, c3, c4, f1, f2, f4⟩ := cells_of S0.out.blk
  clear hs
  unfold acode at hcd
  have hv := stq_vals who.length inn.length gone.length need left
  obtain ⟨v, hst⟩ : ∃ v, st who inn gone need left = v := ⟨_, rfl⟩
  rw [show stq who.length inn.length gone.length need left = v from hst] at hv
  rw [hst] at hcd
  have ST := Aside0.mk hst
  clear hst
  rcases hv with rfl | rfl | rfl
  · rw [if_pos rfl] at hcd
    obtain ⟨b1, hb1⟩ : ∃ b, decide (0 ≤ id ∧ id < 64 ∧ id ∈ who) = b := ⟨_, rfl⟩
    obtain ⟨b2, hb2⟩ : ∃ b, decide (0 ≤ id ∧ id < 64 ∧ id ∈ inn) = b := ⟨_, rfl⟩
    obtain ⟨b3, hb3⟩ : ∃ b, decide (0 ≤ id ∧ id < 64 ∧ id ∈ gone) = b := ⟨_, rfl⟩
    rw [hb1, hb2, hb3] at hcd
    have H1 := Aside0.mk hb1
    have H2 := Aside0.mk hb2
    have H3 := Aside0.mk hb3
    clear hb1 hb2 hb3
    cases b1 with
    | false =>
      rw [if_neg (by decide)] at hcd
      subst hcd
      have HB := Aside0.mk (Below.refl w.heap.size w)
      go_enter Tryd.func49, Tryd.ntmps49
      go_wp2_with (first | (go_at_call 30; (with_reducible refine (state_is _ (TL.out.below HB.out) ST.out).mono ?_); rintro e w1 ⟨rfl, hb⟩; have S1_ := Aside0.mk (S0.out.below hb); clear S0 c0 c1 c2 c3 c4 f1 f2 f4; have S0 := S1_; clear S1_; obtain ⟨c0, c1, c2, c3, c4, f1, f2, f4⟩ := cells_of S0.out.blk; have T1_ := Aside0.mk (below_step HB.out hb); clear HB; have HB := T1_; clear T1_ hb) | (go_at_call 46; (with_reducible refine (has_is _ _ S0.out.who S0.out.ln H1.out).mono ?_); rintro e w1 ⟨rfl, hb⟩; have S1_ := Aside0.mk (S0.out.below hb); clear S0 c0 c1 c2 c3 c4 f1 f2 f4; have S0 := S1_; clear S1_; obtain ⟨c0, c1, c2, c3, c4, f1, f2, f4⟩ := cells_of S0.out.blk; have T1_ := Aside0.mk (below_step HB.out hb); clear HB; have HB := T1_; clear T1_ hb))
      go_ret
      exact ⟨rfl, HB.out⟩
    | true =>
      rw [if_pos rfl] at hcd
      cases b2 with
      | true =>
        rw [if_pos rfl] at hcd
        subst hcd
        have HB := Aside0.mk (Below.refl w.heap.size w)
        go_enter Tryd.func49, Tryd.ntmps49
        go_wp2_with (first | (go_at_call 30; (with_reducible refine (state_is _ (TL.out.below HB.out) ST.out).mono ?_); rintro e w1 ⟨rfl, hb⟩; have S1_ := Aside0.mk (S0.out.below hb); clear S0 c0 c1 c2 c3 c4 f1 f2 f4; have S0 := S1_; clear S1_; obtain ⟨c0, c1, c2, c3, c4, f1, f2, f4⟩ := cells_of S0.out.blk; have T1_ := Aside0.mk (below_step HB.out hb); clear HB; have HB := T1_; clear T1_ hb) | (go_at_call 46; (with_reducible refine (has_is _ _ S0.out.who S0.out.ln H1.out).mono ?_); rintro e w1 ⟨rfl, hb⟩; have S1_ := Aside0.mk (S0.out.below hb); clear S0 c0 c1 c2 c3 c4 f1 f2 f4; have S0 := S1_; clear S1_; obtain ⟨c0, c1, c2, c3, c4, f1, f2, f4⟩ := cells_of S0.out.blk; have T1_ := Aside0.mk (below_step HB.out hb); clear HB; have HB := T1_; clear T1_ hb) | (go_at_call 46; (with_reducible refine (has_is _ _ S0.out.inn S0.out.lm H2.out).mono ?_); rintro e w1 ⟨rfl, hb⟩; have S1_ := Aside0.mk (S0.out.below hb); clear S0 c0 c1 c2 c3 c4 f1 f2 f4; have S0 := S1_; clear S1_; obtain ⟨c0, c1, c2, c3, c4, f1, f2, f4⟩ := cells_of S0.out.blk; have T1_ := Aside0.mk (below_step HB.out hb); clear HB; have HB := T1_; clear T1_ hb))
        go_ret
        exact ⟨rfl, HB.out⟩
      | false =>
        rw [if_neg (by decide)] at hcd
        cases b3 with
        | true =>
          rw [if_pos rfl] at hcd
          subst hcd
          have HB := Aside0.mk (Below.refl w.heap.size w)
          go_enter Tryd.func49, Tryd.ntmps49
          go_wp2_with (first | (go_at_call 30; (with_reducible refine (state_is _ (TL.out.below HB.out) ST.out).mono ?_); rintro e w1 ⟨rfl, hb⟩; have S1_ := Aside0.mk (S0.out.below hb); clear S0 c0 c1 c2 c3 c4 f1 f2 f4; have S0 := S1_; clear S1_; obtain ⟨c0, c1, c2, c3, c4, f1, f2, f4⟩ := cells_of S0.out.blk; have T1_ := Aside0.mk (below_step HB.out hb); clear HB; have HB := T1_; clear T1_ hb) | (go_at_call 46; (with_reducible refine (has_is _ _ S0.out.who S0.out.ln H1.out).mono ?_); rintro e w1 ⟨rfl, hb⟩; have S1_ := Aside0.mk (S0.out.below hb); clear S0 c0 c1 c2 c3 c4 f1 f2 f4; have S0 := S1_; clear S1_; obtain ⟨c0, c1, c2, c3, c4, f1, f2, f4⟩ := cells_of S0.out.blk; have T1_ := Aside0.mk (below_step HB.out hb); clear HB; have HB := T1_; clear T1_ hb) | (go_at_call 46; (with_reducible refine (has_is _ _ S0.out.inn S0.out.lm H2.out).mono ?_); rintro e w1 ⟨rfl, hb⟩; have S1_ := Aside0.mk (S0.out.below hb); clear S0 c0 c1 c2 c3 c4 f1 f2 f4; have S0 := S1_; clear S1_; obtain ⟨c0, c1, c2, c3, c4, f1, f2, f4⟩ := cells_of S0.out.blk; have T1_ := Aside0.mk (below_step HB.out hb); clear HB; have HB := T1_; clear T1_ hb) | (go_at_call 46; (with_reducible refine (has_is _ _ S0.out.gone S0.out.lp H3.out).mono ?_); rintro e w1 ⟨rfl, hb⟩; have S1_ := Aside0.mk (S0.out.below hb); clear S0 c0 c1 c2 c3 c4 f1 f2 f4; have S0 := S1_; clear S1_; obtain ⟨c0, c1, c2, c3, c4, f1, f2, f4⟩ := cells_of S0.out.blk; have T1_ := Aside0.mk (below_step HB.out hb); clear HB; have HB := T1_; clear T1_ hb))
          go_ret
          exact ⟨rfl, HB.out⟩
        | false =>
          rw [if_neg (by decide)] at hcd
          subst hcd
          have HB := Aside0.mk (Below.refl w.heap.size w)
          go_enter Tryd.func49, Tryd.ntmps49
          go_wp2_with (first | (go_at_call 30; (with_reducible refine (state_is _ (TL.out.below HB.out) ST.out).mono ?_); rintro e w1 ⟨rfl, hb⟩; have S1_ := Aside0.mk (S0.out.below hb); clear S0 c0 c1 c2 c3 c4 f1 f2 f4; have S0 := S1_; clear S1_; obtain ⟨c0, c1, c2, c3, c4, f1, f2, f4⟩ := cells_of S0.out.blk; have T1_ := Aside0.mk (below_step HB.out hb); clear HB; have HB := T1_; clear T1_ hb) | (go_at_call 46; (with_reducible refine (has_is _ _ S0.out.who S0.out.ln H1.out).mono ?_); rintro e w1 ⟨rfl, hb⟩; have S1_ := Aside0.mk (S0.out.below hb); clear S0 c0 c1 c2 c3 c4 f1 f2 f4; have S0 := S1_; clear S1_; obtain ⟨c0, c1, c2, c3, c4, f1, f2, f4⟩ := cells_of S0.out.blk; have T1_ := Aside0.mk (below_step HB.out hb); clear HB; have HB := T1_; clear T1_ hb) | (go_at_call 46; (with_reducible refine (has_is _ _ S0.out.inn S0.out.lm H2.out).mono ?_); rintro e w1 ⟨rfl, hb⟩; have S1_ := Aside0.mk (S0.out.below hb); clear S0 c0 c1 c2 c3 c4 f1 f2 f4; have S0 := S1_; clear S1_; obtain ⟨c0, c1, c2, c3, c4, f1, f2, f4⟩ := cells_of S0.out.blk; have T1_ := Aside0.mk (below_step HB.out hb); clear HB; have HB := T1_; clear T1_ hb) | (go_at_call 46; (with_reducible refine (has_is _ _ S0.out.gone S0.out.lp H3.out).mono ?_); rintro e w1 ⟨rfl, hb⟩; have S1_ := Aside0.mk (S0.out.below hb); clear S0 c0 c1 c2 c3 c4 f1 f2 f4; have S0 := S1_; clear S1_; obtain ⟨c0, c1, c2, c3, c4, f1, f2, f4⟩ := cells_of S0.out.blk; have T1_ := Aside0.mk (below_step HB.out hb); clear HB; have HB := T1_; clear T1_ hb))
          go_ret
          exact ⟨rfl, HB.out⟩
  · rw [if_neg (by decide)] at hcd
    subst hcd
    have HB := Aside0.mk (Below.refl w.heap.size w)
    go_enter Tryd.func49, Tryd.ntmps49
    go_wp2_with (first | (go_at_call 30; (with_reducible refine (state_is _ (TL.out.below HB.out) ST.out).mono ?_); rintro e w1 ⟨rfl, hb⟩; have S1_ := Aside0.mk (S0.out.below hb); clear S0 c0 c1 c2 c3 c4 f1 f2 f4; have S0 := S1_; clear S1_; obtain ⟨c0, c1, c2, c3, c4, f1, f2, f4⟩ := cells_of S0.out.blk; have T1_ := Aside0.mk (below_step HB.out hb); clear HB; have HB := T1_; clear T1_ hb))
    go_ret
    exact ⟨rfl, HB.out⟩
  · rw [if_neg (by decide)] at hcd
    subst hcd
    have HB := Aside0.mk (Below.refl w.heap.size w)
    go_enter Tryd.func49, Tryd.ntmps49
    go_wp2_with (first | (go_at_call 30; (with_reducible refine (state_is _ (TL.out.below HB.out) ST.out).mono ?_); rintro e w1 ⟨rfl, hb⟩; have S1_ := Aside0.mk (S0.out.below hb); clear S0 c0 c1 c2 c3 c4 f1 f2 f4; have S0 := S1_; clear S1_; obtain ⟨c0, c1, c2, c3, c4, f1, f2, f4⟩ := cells_of S0.out.blk; have T1_ := Aside0.mk (below_step HB.out hb); clear HB; have HB := T1_; clear T1_ hb))
    go_ret
    exact ⟨rfl, HB.out⟩

/-- a new row is put into the tally -/
theorem Tl0.put1 {A B C D : Option Addr} {n c m d p q k r : Nat} {l : List Int} (h : Tl0 w av t A B C n c m d p q who inn gone need left) (hl : Rn w D k r l) (hk : k ≤ 1000) (hd : 0 < k → ∀ ad, D = some ad → ¬ av ad.block) :
    Tl (w.setCell ⟨t, 1, none⟩ (.slice D k r)) av t who l gone need left ∧ w.grownBy (w.setCell ⟨t, 1, none⟩ (.slice D k r)) (some t) := by
  have hg := Gu.grown_set (g := t) (grown_of_below (Below.refl w.heap.size w) (some t)) 1 (.slice D k r)
  have ht : ∀ {X : Option Addr} {k : Nat}, (0 < k → ∀ ad, X = some ad → ¬ av ad.block) → 0 < k → ∀ ad, X = some ad → ad.block ≠ t := fun hx hp ad e e2 => hx hp ad e (by rw [e2]; exact h.tv)
  exact ⟨⟨A, D, C, n, c, k, r, p, q, blk_set h.blk 1 (.slice D k r), h.who.grown hg (ht h.na), hl.grown hg (ht hd), h.gone.grown hg (ht h.nc), h.ln, hk, h.lp, h.tv, fun k hk => Nat.lt_of_lt_of_le (h.al k hk) hg.size, h.na, hd, h.nc⟩, hg⟩
theorem Tl0.put2 {A B C D : Option Addr} {n c m d p q k r : Nat} {l : List Int} (h : Tl0 w av t A B C n c m d p q who inn gone need left) (hl : Rn w D k r l) (hk : k ≤ 1000) (hd : 0 < k → ∀ ad, D = some ad → ¬ av ad.block) :
    Tl (w.setCell ⟨t, 2, none⟩ (.slice D k r)) av t who inn l need left ∧ w.grownBy (w.setCell ⟨t, 2, none⟩ (.slice D k r)) (some t) := by
  have hg := Gu.grown_set (g := t) (grown_of_below (Below.refl w.heap.size w) (some t)) 2 (.slice D k r)
  have ht : ∀ {X : Option Addr} {k : Nat}, (0 < k → ∀ ad, X = some ad → ¬ av ad.block) → 0 < k → ∀ ad, X = some ad → ad.block ≠ t := fun hx hp ad e e2 => hx hp ad e (by rw [e2]; exact h.tv)
  exact ⟨⟨A, B, D, n, c, m, d, k, r, blk_set h.blk 2 (.slice D k r), h.who.grown hg (ht h.na), h.inn.grown hg (ht h.nb), hl.grown hg (ht hd), h.ln, h.lm, hk, h.tv, fun k hk => Nat.lt_of_lt_of_le (h.al k hk) hg.size, h.na, h.nb, hd⟩, hg⟩
theorem Tl0.put4 {A B C : Option Addr} {n c m d p q : Nat} (x : Int) (h : Tl0 w av t A B C n c m d p q who inn gone need left) :
    Tl (w.setCell ⟨t, 4, none⟩ (.int .i64 x)) av t who inn gone need x ∧ w.grownBy (w.setCell ⟨t, 4, none⟩ (.int .i64 x)) (some t) := by
  have hg := Gu.grown_set (g := t) (grown_of_below (Below.refl w.heap.size w) (some t)) 4 (.int .i64 x)
  have ht : ∀ {X : Option Addr} {k : Nat}, (0 < k → ∀ ad, X = some ad → ¬ av ad.block) → 0 < k → ∀ ad, X = some ad → ad.block ≠ t := fun hx hp ad e e2 => hx hp ad e (by rw [e2]; exact h.tv)
  exact ⟨⟨A, B, C, n, c, m, d, p, q, blk_set h.blk 4 (.int .i64 x), h.who.grown hg (ht h.na), h.inn.grown hg (ht h.nb), h.gone.grown hg (ht h.nc), h.ln, h.lm, h.lp, h.tv, fun k hk => Nat.lt_of_lt_of_le (h.al k hk) hg.size, h.na, h.nb, h.nc⟩, hg⟩
theorem grown_trans {w w1 w2 : World} {r : Option Nat} (h1 : w.grownBy w1 r) (h2 : w1.grownBy w2 r) : w.grownBy w2 r :=
  ⟨h2.os.trans h1.os, h2.tape.trans h1.tape, h2.output.trans h1.output, Nat.le_trans h1.size h2.size, fun k hk hne => (h2.block k (Nat.lt_of_lt_of_le hk h1.size) hne).trans (h1.block k hk hne)⟩

theorem fresh_av {D : Option Addr} {k s : Nat} {av : Nat → Prop} (h : 0 < k → ∀ ad, D = some ad → s ≤ ad.block) (ha : ∀ j, av j → j < s) : 0 < k → ∀ ad, D = some ad → ¬ av ad.block :=
  fun hp ad e he => Nat.not_lt.2 (h hp ad e) (ha _ he)
/-- the set of one more -/
def more (l : List Int) (id : Int) : List Int := sel fun n => decide ((n : Int) ∈ l) || decide ((n : Int) ∈ [id])
/-- what Came (Gone) does -/
def DidC (c : Int) (av : Nat → Prop) (t : Nat) (who inn gone : List Int) (need left id : Int) (w : World) (e : Ending) (w' : World) : Prop := e = .returned (errV c) ∧ Tl w' av t who (if c = 0 then more inn id else inn) gone need left ∧ w.grownBy w' (some t)
def DidG (c : Int) (av : Nat → Prop) (t : Nat) (who inn gone : List Int) (need left id : Int) (w : World) (e : Ending) (w' : World) : Prop := e = .returned (errV c) ∧ Tl w' av t who inn (if c = 0 then more gone id else gone) need left ∧ w.grownBy w' (some t)

set_option maxRecDepth 100000 in
set_option maxHeartbeats 1000000 in
theorem came_is (id : Int) (hs : Tl w av t who inn gone need left) : Calls Tryd.prog 28 #[.pointer (some ⟨t, 0, none⟩), .int .i64 id] w
    (DidC (acode who inn gone need left id) av t who inn gone need left id w) := by
  have AS := Aside0.mk (asked_is id hs)
  have TL := Aside0.mk hs
  obtain ⟨A, B, C, n, c, m, d, p, q, hs⟩ := hs
  have S0 := Aside0.mk hs
  obtain ⟨c0, c1, c2, c3, c4, f1, f2, f4⟩ := cells_of S0.out.blk
  clear hs
  generalize acode who inn gone need left id = cd at *
  have HB := Aside0.mk (Below.refl w.heap.size w)
  by_cases h0 : cd = 0
  · subst h0
    have AS1 : Aside0 (Calls Tryd.prog 49 #[.pointer (some ⟨t, 0, none⟩), .int .i64 id] w (Sc.Told .nilIface w)) := ⟨AS.out⟩
    go_enter Tryd.func28, Tryd.ntmps28
    go_wp2_with (first | (go_at_call 49; (with_reducible refine (AS1.out).mono ?_); rintro e w1 ⟨rfl, hb⟩; have S1_ := Aside0.mk (S0.out.below hb); clear S0 c0 c1 c2 c3 c4 f1 f2 f4; have S0 := S1_; clear S1_; obtain ⟨c0, c1, c2, c3, c4, f1, f2, f4⟩ := cells_of S0.out.blk; have T1_ := Aside0.mk (below_step HB.out hb); clear HB; have HB := T1_; clear T1_ hb) | ((with_reducible refine gate_dst (N := 18) rfl ?_); (try (refine gate_guard (by rfl) ?_; dsimp only)); refine Kd.R_lit (Kd.int .i64) _ 3 ?hg (N := 18) ?hd (xs := [id]) (inner := [.int .i64 id]) (ok := fun _ => True) (okp := fun _ => True) ?hr ?hp (fun _ hk => hk) trivial (Below.refl _ _) (Nat.le_refl _) (by simp) ?_; (case hd => rfl); (case hg => rfl); (case hr => first | (go_simp; done) | (go_simp; rfl)); (case hp => exact (Reps.one (show Kd.M (Kd.int .i64) _ _ _ id [.int .i64 id] from rfl) (Reps.none _ _))); intro vL wL hoL hbL _ _; obtain ⟨AL, cL, rfl, hRL⟩ := Gu.Rn.of_Rn (n := 1) hoL rfl; have RL := Aside0.mk hRL; have hb := hbL; clear hoL hbL hRL; have S1_ := Aside0.mk (S0.out.below hb); clear S0 c0 c1 c2 c3 c4 f1 f2 f4; have S0 := S1_; clear S1_; obtain ⟨c0, c1, c2, c3, c4, f1, f2, f4⟩ := cells_of S0.out.blk; have T1_ := Aside0.mk (below_step HB.out hb); clear HB; have HB := T1_; clear T1_ hb) | (go_at_call 50; (with_reducible refine (either_f S0.out.inn S0.out.lm RL.out (by decide)).mono ?_); rintro e w1 ⟨AE, nE, cE, rfl, hrE, hb, hfE⟩; have RE := Aside0.mk hrE; have FE := Aside0.mk (fresh_av hfE S0.out.al); have S1_ := Aside0.mk (S0.out.below hb); clear S0 c0 c1 c2 c3 c4 f1 f2 f4; have S0 := S1_; clear S1_; obtain ⟨c0, c1, c2, c3, c4, f1, f2, f4⟩ := cells_of S0.out.blk; have T1_ := Aside0.mk (below_step HB.out hb); clear HB; have HB := T1_; clear T1_ hb; clear hrE hfE RL))
    go_ret
    have hlen : nE ≤ 1000 := by
      have h1 := RE.out.len
      have h2 := sel_len (fun n => decide ((n : Int) ∈ inn) || decide ((n : Int) ∈ [id]))
      omega
    obtain ⟨p1, p2⟩ := S0.out.put1 RE.out hlen FE.out
    exact ⟨rfl, by rw [if_pos rfl]; exact p1, grown_trans (grown_of_below HB.out _) p2⟩
  · have AS1 : Aside0 (Calls Tryd.prog 49 #[.pointer (some ⟨t, 0, none⟩), .int .i64 id] w (Sc.Told (.iface 75 (.int .i64 cd)) w)) := ⟨by have := AS.out; rwa [errV, if_neg h0] at this⟩
    have HD : Aside0 (∀ w', Below w.heap.size w w' → DidC cd av t who inn gone need left id w (.returned (.iface 75 (.int .i64 cd))) w') := ⟨fun w' h => ⟨by rw [errV, if_neg h0], by rw [if_neg h0]; exact TL.out.below h, grown_of_below h _⟩⟩
    clear h0
    go_enter Tryd.func28, Tryd.ntmps28
    go_wp2_with (go_at_call 49; (with_reducible refine (AS1.out).mono ?_); rintro e w1 ⟨rfl, hb⟩)
    go_ret
    exact HD.out _ hb

set_option maxRecDepth 100000 in
set_option maxHeartbeats 1000000 in
theorem gone_is (id : Int) (hs : Tl w av t who inn gone need left) : Calls Tryd.prog 29 #[.pointer (some ⟨t, 0, none⟩), .int .i64 id] w
    (DidG (acode who inn gone need left id) av t who inn gone need left id w) := by
  have AS := Aside0.mk (asked_is id hs)
  have TL := Aside0.mk hs
  obtain ⟨A, B, C, n, c, m, d, p, q, hs⟩ := hs
  have S0 := Aside0.mk hs
  obtain ⟨c0, c1, c2, c3, c4, f1, f2, f4⟩ := cells_of S0.out.blk
  clear hs
  generalize acode who inn gone need left id = cd at *
  have HB := Aside0.mk (Below.refl w.heap.size w)
  by_cases h0 : cd = 0
  · subst h0
    have AS1 : Aside0 (Calls Tryd.prog 49 #[.pointer (some ⟨t, 0, none⟩), .int .i64 id] w (Sc.Told .nilIface w)) := ⟨AS.out⟩
    go_enter Tryd.func29, Tryd.ntmps29
    go_wp2_with (first | (go_at_call 49; (with_reducible refine (AS1.out).mono ?_); rintro e w1 ⟨rfl, hb⟩; have S1_ := Aside0.mk (S0.out.below hb); clear S0 c0 c1 c2 c3 c4 f1 f2 f4; have S0 := S1_; clear S1_; obtain ⟨c0, c1, c2, c3, c4, f1, f2, f4⟩ := cells_of S0.out.blk; have T1_ := Aside0.mk (below_step HB.out hb); clear HB; have HB := T1_; clear T1_ hb) | ((with_reducible refine gate_dst (N := 18) rfl ?_); (try (refine gate_guard (by rfl) ?_; dsimp only)); refine Kd.R_lit (Kd.int .i64) _ 3 ?hg (N := 18) ?hd (xs := [id]) (inner := [.int .i64 id]) (ok := fun _ => True) (okp := fun _ => True) ?hr ?hp (fun _ hk => hk) trivial (Below.refl _ _) (Nat.le_refl _) (by simp) ?_; (case hd => rfl); (case hg => rfl); (case hr => first | (go_simp; done) | (go_simp; rfl)); (case hp => exact (Reps.one (show Kd.M (Kd.int .i64) _ _ _ id [.int .i64 id] from rfl) (Reps.none _ _))); intro vL wL hoL hbL _ _; obtain ⟨AL, cL, rfl, hRL⟩ := Gu.Rn.of_Rn (n := 1) hoL rfl; have RL := Aside0.mk hRL; have hb := hbL; clear hoL hbL hRL; have S1_ := Aside0.mk (S0.out.below hb); clear S0 c0 c1 c2 c3 c4 f1 f2 f4; have S0 := S1_; clear S1_; obtain ⟨c0, c1, c2, c3, c4, f1, f2, f4⟩ := cells_of S0.out.blk; have T1_ := Aside0.mk (below_step HB.out hb); clear HB; have HB := T1_; clear T1_ hb) | (go_at_call 50; (with_reducible refine (either_f S0.out.gone S0.out.lp RL.out (by decide)).mono ?_); rintro e w1 ⟨AE, nE, cE, rfl, hrE, hb, hfE⟩; have RE := Aside0.mk hrE; have FE := Aside0.mk (fresh_av hfE S0.out.al); have S1_ := Aside0.mk (S0.out.below hb); clear S0 c0 c1 c2 c3 c4 f1 f2 f4; have S0 := S1_; clear S1_; obtain ⟨c0, c1, c2, c3, c4, f1, f2, f4⟩ := cells_of S0.out.blk; have T1_ := Aside0.mk (below_step HB.out hb); clear HB; have HB := T1_; clear T1_ hb; clear hrE hfE RL))
    go_ret
    have hlen : nE ≤ 1000 := by
      have h1 := RE.out.len
      have h2 := sel_len (fun n => decide ((n : Int) ∈ gone) || decide ((n : Int) ∈ [id]))
      omega
    obtain ⟨p1, p2⟩ := S0.out.put2 RE.out hlen FE.out
    exact ⟨rfl, by rw [if_pos rfl]; exact p1, grown_trans (grown_of_below HB.out _) p2⟩
  · have AS1 : Aside0 (Calls Tryd.prog 49 #[.pointer (some ⟨t, 0, none⟩), .int .i64 id] w (Sc.Told (.iface 75 (.int .i64 cd)) w)) := ⟨by have := AS.out; rwa [errV, if_neg h0] at this⟩
    have HD : Aside0 (∀ w', Below w.heap.size w w' → DidG cd av t who inn gone need left id w (.returned (.iface 75 (.int .i64 cd))) w') := ⟨fun w' h => ⟨by rw [errV, if_neg h0], by rw [if_neg h0]; exact TL.out.below h, grown_of_below h _⟩⟩
    clear h0
    go_enter Tryd.func29, Tryd.ntmps29
    go_wp2_with (go_at_call 49; (with_reducible refine (AS1.out).mono ?_); rintro e w1 ⟨rfl, hb⟩)
    go_ret
    exact HD.out _ hb

end
end Go.Proofs.YtfomajippdcaoaaDoor.Qu
