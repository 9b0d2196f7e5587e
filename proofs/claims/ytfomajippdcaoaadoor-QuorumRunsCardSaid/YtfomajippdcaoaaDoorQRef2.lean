/-
  The document's tally (caucusref23), walked, further: Came and Tick.
-/
import Derived.Test.YtfomajippdcaoaaDoorQRef
namespace Go.Proofs.YtfomajippdcaoaaDoor.Qu
open Go.RowKit Go.Proofs.YtfomajippdcaoaaDoorW.PrintWords Go.Proofs.YtfomajippdcaoaaDoorW.PrintLast Go.Proofs.YtfomajippdcaoaaDoorW.PrintMore Go.Proofs.YtfomajippdcaoaaDoor.PSet Go.Proofs.YtfomajippdcaoaaDoor.Sc

theorem some_f {n c n1 c1 : Nat} {A B : Option Addr} {l : List Int} {id : Int} {w : World} (h : Rn w A n c l) (hl : n ≤ 1000) (h1 : Rn w B n1 c1 [id]) (hl1 : n1 ≤ 1000) : Calls Tryd.prog 40 #[.slice A n c, .slice B n1 c1, .int .i64 0] w (MadeF (more l id) w) := by
  obtain ⟨h, rfl, hc⟩ := h
  obtain ⟨h1, rfl, hc1⟩ := h1
  refine (caucusref15_Some.calls 1101 A c l B c1 [id] 0 _ w h hc h1 hc1 (some_tells 1101 l [id] 0 (Or.inl rfl) hl hl1 (by omega))).mono ?_
  rintro e w' ⟨v, rfl, hr, hb⟩
  obtain ⟨A, c, rfl, hR⟩ := Rn.of_R hr
  refine ⟨A, _, c, rfl, hR, hb, ?_⟩
  rintro _ ad rfl
  exact Kd.R_base hr ad.block (by simp [Value.ownBlock])
def Av (av : Nat → Prop) (A : Option Addr) (n : Nat) : Prop := 0 < n → ∀ ad, A = some ad → ¬ av ad.block

theorem le_of_f {D : Option Addr} {k s b : Nat} (h : 0 < k → ∀ ad, D = some ad → s ≤ ad.block) (hb : b + 1 < s) : 0 < k → ∀ ad, D = some ad → b + 1 < ad.block := fun hp ad e => Nat.lt_of_lt_of_le hb (h hp ad e)
theorem st5_below (o : Nat) (w : World) (x0 x1 x2 x3 x4 : Value) : w.grownBy (((((w.setCell ⟨o, 0, none⟩ x0).setCell ⟨o, 1, none⟩ x1).setCell ⟨o, 2, none⟩ x2).setCell ⟨o, 3, none⟩ x3).setCell ⟨o, 4, none⟩ x4) (some o) :=
  Gu.grown_set (Gu.grown_set (Gu.grown_set (Gu.grown_set (Gu.grown_set (grown_of_below (Below.refl w.heap.size w) (some o)) 0 x0) 1 x1) 2 x2) 3 x3) 4 x4
/-- what the document's Came does -/
def RCame (av : Nat → Prop) (A : Option Addr) (n c : Nat) (need left code : Int) (inn gone : List Int) (w : World) (e : Ending) (w' : World) : Prop :=
  ∃ B m d C p q, e = .returned (.tuple #[.agg #[.slice A n c, .int .i64 need, .int .i64 left, .slice B m d, .slice C p q], .int .i64 code]) ∧ (Rn w' B m d inn ∧ m ≤ 1000 ∧ Av av B m) ∧ (Rn w' C p q gone ∧ p ≤ 1000 ∧ Av av C p) ∧ Below w.heap.size w w'
section
variable {w : World} {av : Nat → Prop} {A B C : Option Addr} {n c m d p q : Nat} {who inn gone : List Int} {need left : Int}
set_option maxRecDepth 100000 in
set_option maxHeartbeats 1000000 in
theorem rcame_is (id : Int) (g : Bool) (ha : Rn w A n c who) (hb : Rn w B m d inn) (hc : Rn w C p q gone) (hn : n ≤ 1000) (hm : m ≤ 1000) (hp : p ≤ 1000) (vb : Av av B m) (vc : Av av C p) (hal : ∀ k, av k → k < w.heap.size) :
    Calls Tryd.prog 36 #[.agg #[.slice A n c, .int .i64 need, .int .i64 left, .slice B m d, .slice C p q], .int .i64 id, .bool g] w
      (RCame av A n c need left (acode who inn gone need left id) (if acode who inn gone need left id = 0 ∧ g = false then more inn id else inn) (if acode who inn gone need left id = 0 ∧ g = true then more gone id else gone) w) := by
  obtain ⟨cd, hcd⟩ : ∃ cd, acode who inn gone need left id = cd := ⟨_, rfl⟩
  rw [hcd]
  have RA := Aside0.mk ha
  have RB := Aside0.mk hb
  have RC := Aside0.mk hc
  have LA := Aside0.mk hn
  have LB := Aside0.mk hm
  have LC := Aside0.mk hp
  have VB := Aside0.mk vb
  have VC := Aside0.mk vc
  have AL := Aside0.mk hal
  clear ha hb hc hn hm hp vb vc hal
  unfold acode at hcd
  have hv := stq_vals who.length inn.length gone.length need left
  obtain ⟨v, hst⟩ : ∃ v, st who inn gone need left = v := ⟨_, rfl⟩
  rw [show stq who.length inn.length gone.length need left = v from hst] at hv
  rw [hst] at hcd
  have ST := Aside0.mk hst
  clear hst
  obtain ⟨inn1, hin⟩ : ∃ l, (if cd = 0 ∧ g = false then more inn id else inn) = l := ⟨_, rfl⟩
  obtain ⟨gone1, hgo⟩ : ∃ l, (if cd = 0 ∧ g = true then more gone id else gone) = l := ⟨_, rfl⟩
  rw [hin, hgo]
  have Z0 : Aside0 (Bx w ((w.alloc (.cells #[.slice A n c, .int .i64 need, .int .i64 left, .slice B m d, .slice C p q] 63)).alloc (.cells #[.slice none 0 0, .int .i64 0, .int .i64 0, .slice none 0 0, .slice none 0 0] 63)) #[.slice A n c, .int .i64 need, .int .i64 left, .slice B m d, .slice C p q] #[.slice none 0 0, .int .i64 0, .int .i64 0, .slice none 0 0, .slice none 0 0]) := ⟨Bx.new _ _ _⟩
  have NO : cd ≠ 0 → inn1 = inn ∧ gone1 = gone := fun h => ⟨by rw [← hin, if_neg (fun h1 => h h1.1)], by rw [← hgo, if_neg (fun h1 => h h1.1)]⟩
  have HIN := Aside0.mk hin
  have HGO := Aside0.mk hgo
  have HNO := Aside0.mk NO
  clear hin hgo NO
  go_enter Tryd.func36, Tryd.ntmps36
  go_upto_region 1 with (fail)
  generalize (w.alloc (.cells #[.slice A n c, .int .i64 need, .int .i64 left, .slice B m d, .slice C p q] 63)).alloc (.cells #[.slice none 0 0, .int .i64 0, .int .i64 0, .slice none 0 0, .slice none 0 0] 63) = wb at *
  obtain ⟨d0, d1, d2, d3, d4, d5, d6, d7, d8, d9⟩ := cs5_of Z0.out.box
  rcases hv with rfl | rfl | rfl
  · rw [if_pos rfl] at hcd
    obtain ⟨b1, hb1⟩ : ∃ b, decide (0 ≤ id ∧ id < 64 ∧ id ∈ who) = b := ⟨_, rfl⟩
    obtain ⟨b2, hb2⟩ : ∃ b, decide (0 ≤ id ∧ id < 64 ∧ id ∈ inn) = b := ⟨_, rfl⟩
    obtain ⟨b3, hb3⟩ : ∃ b, decide (0 ≤ id ∧ id < 64 ∧ id ∈ gone) = b := ⟨_, rfl⟩
    rw [hb1, hb2, hb3] at hcd
    have H1 := Aside0.mk hb1
    have H2 := Aside0.mk hb2
    have H3 := Aside0.mk hb3
    clear hb1 hb2 hb3
    cases b1 with
    | false =>
      rw [if_neg (by decide)] at hcd
      subst hcd
      obtain ⟨rfl, rfl⟩ := HNO.out (by decide)
      clear HIN HGO HNO
      go_wp2_with (first | (go_at_call 38; (with_reducible refine (rstate_is _ (RA.out.below Z0.out.bel) (RB.out.below Z0.out.bel) (RC.out.below Z0.out.bel) LA.out LC.out ST.out).mono ?_); rintro e w5 ⟨rfl, hb⟩; have Z1_ := Aside0.mk (Z0.out.below hb); clear Z0; have Z0 := Z1_; clear Z1_ hb; clear d0 d1 d2 d3 d4 d5 d6 d7 d8 d9; obtain ⟨d0, d1, d2, d3, d4, d5, d6, d7, d8, d9⟩ := cs5_of Z0.out.box; (try clear e0 e1 e2 e3 e4 e5 e6 e7 e8 e9); obtain ⟨e0, e1, e2, e3, e4, e5, e6, e7, e8, e9⟩ := cs5_of Z0.out.res) | (go_at_call 19; (with_reducible refine (hasr_is _ _ (RA.out.below Z0.out.bel) LA.out H1.out).mono ?_); rintro e w5 ⟨rfl, hb⟩; have Z1_ := Aside0.mk (Z0.out.below hb); clear Z0; have Z0 := Z1_; clear Z1_ hb; clear d0 d1 d2 d3 d4 d5 d6 d7 d8 d9; obtain ⟨d0, d1, d2, d3, d4, d5, d6, d7, d8, d9⟩ := cs5_of Z0.out.box; (try clear e0 e1 e2 e3 e4 e5 e6 e7 e8 e9); obtain ⟨e0, e1, e2, e3, e4, e5, e6, e7, e8, e9⟩ := cs5_of Z0.out.res))
      have ZS := Z0.out.store (.slice A n c) (.int .i64 need) (.int .i64 left) (.slice B m d) (.slice C p q)
      exact bodyPost_ret (rcame_res rfl rfl ZS) rfl ⟨_, _, _, _, _, _, rfl, ⟨RB.out.below ZS.bel, LB.out, VB.out⟩, ⟨RC.out.below ZS.bel, LC.out, VC.out⟩, ZS.bel⟩
    | true =>
      rw [if_pos rfl] at hcd
      cases b2 with
      | true =>
        rw [if_pos rfl] at hcd
        subst hcd
        obtain ⟨rfl, rfl⟩ := HNO.out (by decide)
        clear HIN HGO HNO
        go_wp2_with (first | (go_at_call 38; (with_reducible refine (rstate_is _ (RA.out.below Z0.out.bel) (RB.out.below Z0.out.bel) (RC.out.below Z0.out.bel) LA.out LC.out ST.out).mono ?_); rintro e w5 ⟨rfl, hb⟩; have Z1_ := Aside0.mk (Z0.out.below hb); clear Z0; have Z0 := Z1_; clear Z1_ hb; clear d0 d1 d2 d3 d4 d5 d6 d7 d8 d9; obtain ⟨d0, d1, d2, d3, d4, d5, d6, d7, d8, d9⟩ := cs5_of Z0.out.box; (try clear e0 e1 e2 e3 e4 e5 e6 e7 e8 e9); obtain ⟨e0, e1, e2, e3, e4, e5, e6, e7, e8, e9⟩ := cs5_of Z0.out.res) | (go_at_call 19; (with_reducible refine (hasr_is _ _ (RA.out.below Z0.out.bel) LA.out H1.out).mono ?_); rintro e w5 ⟨rfl, hb⟩; have Z1_ := Aside0.mk (Z0.out.below hb); clear Z0; have Z0 := Z1_; clear Z1_ hb; clear d0 d1 d2 d3 d4 d5 d6 d7 d8 d9; obtain ⟨d0, d1, d2, d3, d4, d5, d6, d7, d8, d9⟩ := cs5_of Z0.out.box; (try clear e0 e1 e2 e3 e4 e5 e6 e7 e8 e9); obtain ⟨e0, e1, e2, e3, e4, e5, e6, e7, e8, e9⟩ := cs5_of Z0.out.res) | (go_at_call 19; (with_reducible refine (hasr_is _ _ (RB.out.below Z0.out.bel) LB.out H2.out).mono ?_); rintro e w5 ⟨rfl, hb⟩; have Z1_ := Aside0.mk (Z0.out.below hb); clear Z0; have Z0 := Z1_; clear Z1_ hb; clear d0 d1 d2 d3 d4 d5 d6 d7 d8 d9; obtain ⟨d0, d1, d2, d3, d4, d5, d6, d7, d8, d9⟩ := cs5_of Z0.out.box; (try clear e0 e1 e2 e3 e4 e5 e6 e7 e8 e9); obtain ⟨e0, e1, e2, e3, e4, e5, e6, e7, e8, e9⟩ := cs5_of Z0.out.res))
        have ZS := Z0.out.store (.slice A n c) (.int .i64 need) (.int .i64 left) (.slice B m d) (.slice C p q)
        exact bodyPost_ret (rcame_res rfl rfl ZS) rfl ⟨_, _, _, _, _, _, rfl, ⟨RB.out.below ZS.bel, LB.out, VB.out⟩, ⟨RC.out.below ZS.bel, LC.out, VC.out⟩, ZS.bel⟩
      | false =>
        rw [if_neg (by decide)] at hcd
        cases b3 with
        | true =>
          rw [if_pos rfl] at hcd
          subst hcd
          obtain ⟨rfl, rfl⟩ := HNO.out (by decide)
          clear HIN HGO HNO
          go_wp2_with (first | (go_at_call 38; (with_reducible refine (rstate_is _ (RA.out.below Z0.out.bel) (RB.out.below Z0.out.bel) (RC.out.below Z0.out.bel) LA.out LC.out ST.out).mono ?_); rintro e w5 ⟨rfl, hb⟩; have Z1_ := Aside0.mk (Z0.out.below hb); clear Z0; have Z0 := Z1_; clear Z1_ hb; clear d0 d1 d2 d3 d4 d5 d6 d7 d8 d9; obtain ⟨d0, d1, d2, d3, d4, d5, d6, d7, d8, d9⟩ := cs5_of Z0.out.box; (try clear e0 e1 e2 e3 e4 e5 e6 e7 e8 e9); obtain ⟨e0, e1, e2, e3, e4, e5, e6, e7, e8, e9⟩ := cs5_of Z0.out.res) | (go_at_call 19; (with_reducible refine (hasr_is _ _ (RA.out.below Z0.out.bel) LA.out H1.out).mono ?_); rintro e w5 ⟨rfl, hb⟩; have Z1_ := Aside0.mk (Z0.out.below hb); clear Z0; have Z0 := Z1_; clear Z1_ hb; clear d0 d1 d2 d3 d4 d5 d6 d7 d8 d9; obtain ⟨d0, d1, d2, d3, d4, d5, d6, d7, d8, d9⟩ := cs5_of Z0.out.box; (try clear e0 e1 e2 e3 e4 e5 e6 e7 e8 e9); obtain ⟨e0, e1, e2, e3, e4, e5, e6, e7, e8, e9⟩ := cs5_of Z0.out.res) | (go_at_call 19; (with_reducible refine (hasr_is _ _ (RB.out.below Z0.out.bel) LB.out H2.out).mono ?_); rintro e w5 ⟨rfl, hb⟩; have Z1_ := Aside0.mk (Z0.out.below hb); clear Z0; have Z0 := Z1_; clear Z1_ hb; clear d0 d1 d2 d3 d4 d5 d6 d7 d8 d9; obtain ⟨d0, d1, d2, d3, d4, d5, d6, d7, d8, d9⟩ := cs5_of Z0.out.box; (try clear e0 e1 e2 e3 e4 e5 e6 e7 e8 e9); obtain ⟨e0, e1, e2, e3, e4, e5, e6, e7, e8, e9⟩ := cs5_of Z0.out.res) | (go_at_call 19; (with_reducible refine (hasr_is _ _ (RC.out.below Z0.out.bel) LC.out H3.out).mono ?_); rintro e w5 ⟨rfl, hb⟩; have Z1_ := Aside0.mk (Z0.out.below hb); clear Z0; have Z0 := Z1_; clear Z1_ hb; clear d0 d1 d2 d3 d4 d5 d6 d7 d8 d9; obtain ⟨d0, d1, d2, d3, d4, d5, d6, d7, d8, d9⟩ := cs5_of Z0.out.box; (try clear e0 e1 e2 e3 e4 e5 e6 e7 e8 e9); obtain ⟨e0, e1, e2, e3, e4, e5, e6, e7, e8, e9⟩ := cs5_of Z0.out.res))
          have ZS := Z0.out.store (.slice A n c) (.int .i64 need) (.int .i64 left) (.slice B m d) (.slice C p q)
          exact bodyPost_ret (rcame_res rfl rfl ZS) rfl ⟨_, _, _, _, _, _, rfl, ⟨RB.out.below ZS.bel, LB.out, VB.out⟩, ⟨RC.out.below ZS.bel, LC.out, VC.out⟩, ZS.bel⟩
        | false =>
          rw [if_neg (by decide)] at hcd
          subst hcd
          cases g with
          | false =>
            obtain rfl : more inn id = inn1 := by have := HIN.out; rwa [if_pos ⟨rfl, rfl⟩] at this
            obtain rfl : gone = gone1 := by have := HGO.out; rwa [if_neg (fun h => by cases h.2)] at this
            clear HIN HGO HNO
            go_upto_region 10 with (first | (go_at_call 38; (with_reducible refine (rstate_is _ (RA.out.below Z0.out.bel) (RB.out.below Z0.out.bel) (RC.out.below Z0.out.bel) LA.out LC.out ST.out).mono ?_); rintro e w5 ⟨rfl, hb⟩; have Z1_ := Aside0.mk (Z0.out.below hb); clear Z0; have Z0 := Z1_; clear Z1_ hb; clear d0 d1 d2 d3 d4 d5 d6 d7 d8 d9; obtain ⟨d0, d1, d2, d3, d4, d5, d6, d7, d8, d9⟩ := cs5_of Z0.out.box; (try clear e0 e1 e2 e3 e4 e5 e6 e7 e8 e9); obtain ⟨e0, e1, e2, e3, e4, e5, e6, e7, e8, e9⟩ := cs5_of Z0.out.res) | (go_at_call 19; (with_reducible refine (hasr_is _ _ (RA.out.below Z0.out.bel) LA.out H1.out).mono ?_); rintro e w5 ⟨rfl, hb⟩; have Z1_ := Aside0.mk (Z0.out.below hb); clear Z0; have Z0 := Z1_; clear Z1_ hb; clear d0 d1 d2 d3 d4 d5 d6 d7 d8 d9; obtain ⟨d0, d1, d2, d3, d4, d5, d6, d7, d8, d9⟩ := cs5_of Z0.out.box; (try clear e0 e1 e2 e3 e4 e5 e6 e7 e8 e9); obtain ⟨e0, e1, e2, e3, e4, e5, e6, e7, e8, e9⟩ := cs5_of Z0.out.res) | (go_at_call 19; (with_reducible refine (hasr_is _ _ (RB.out.below Z0.out.bel) LB.out H2.out).mono ?_); rintro e w5 ⟨rfl, hb⟩; have Z1_ := Aside0.mk (Z0.out.below hb); clear Z0; have Z0 := Z1_; clear Z1_ hb; clear d0 d1 d2 d3 d4 d5 d6 d7 d8 d9; obtain ⟨d0, d1, d2, d3, d4, d5, d6, d7, d8, d9⟩ := cs5_of Z0.out.box; (try clear e0 e1 e2 e3 e4 e5 e6 e7 e8 e9); obtain ⟨e0, e1, e2, e3, e4, e5, e6, e7, e8, e9⟩ := cs5_of Z0.out.res) | (go_at_call 19; (with_reducible refine (hasr_is _ _ (RC.out.below Z0.out.bel) LC.out H3.out).mono ?_); rintro e w5 ⟨rfl, hb⟩; have Z1_ := Aside0.mk (Z0.out.below hb); clear Z0; have Z0 := Z1_; clear Z1_ hb; clear d0 d1 d2 d3 d4 d5 d6 d7 d8 d9; obtain ⟨d0, d1, d2, d3, d4, d5, d6, d7, d8, d9⟩ := cs5_of Z0.out.box; (try clear e0 e1 e2 e3 e4 e5 e6 e7 e8 e9); obtain ⟨e0, e1, e2, e3, e4, e5, e6, e7, e8, e9⟩ := cs5_of Z0.out.res) | ((with_reducible refine gate_dst (N := 39) rfl ?_); (try (refine gate_guard (by rfl) ?_; dsimp only)); refine Kd.R_lit (Kd.int .i64) _ 3 ?hg (N := 39) ?hd (xs := [id]) (inner := [.int .i64 id]) (ok := fun _ => True) (okp := fun _ => True) ?hr ?hp (fun _ hk => hk) trivial (Below.refl _ _) (Nat.le_refl _) (by simp) ?_; (case hd => rfl); (case hg => rfl); (case hr => first | (go_simp; done) | (go_simp; rfl)); (case hp => exact (Reps.one (show Kd.M (Kd.int .i64) _ _ _ id [.int .i64 id] from rfl) (Reps.none _ _))); intro vL wL hoL hbL _ _; obtain ⟨AL1, cL, rfl, hRL⟩ := Gu.Rn.of_Rn (n := 1) hoL rfl; have RL := Aside0.mk hRL; have hb := hbL; clear hoL hbL hRL; have Z1_ := Aside0.mk (Z0.out.below hb); clear Z0; have Z0 := Z1_; clear Z1_ hb; clear d0 d1 d2 d3 d4 d5 d6 d7 d8 d9; obtain ⟨d0, d1, d2, d3, d4, d5, d6, d7, d8, d9⟩ := cs5_of Z0.out.box; (try clear e0 e1 e2 e3 e4 e5 e6 e7 e8 e9); obtain ⟨e0, e1, e2, e3, e4, e5, e6, e7, e8, e9⟩ := cs5_of Z0.out.res) | (go_at_call 40; (with_reducible refine (some_f (RB.out.below Z0.out.bel) LB.out RL.out (by decide)).mono ?_); rintro e w5 ⟨AE, nE, cE, rfl, hrE, hb, hfE⟩; have RE := Aside0.mk hrE; have SZ := Aside0.mk (Nat.lt_of_lt_of_le (Nat.lt_succ_self _) (blk_lt Z0.out.res)); have FE := Aside0.mk (le_of_f hfE (blk_lt Z0.out.res)); clear hrE hfE RL; have Z1_ := Aside0.mk (Z0.out.below hb); clear Z0; have Z0 := Z1_; clear Z1_ hb; clear d0 d1 d2 d3 d4 d5 d6 d7 d8 d9; obtain ⟨d0, d1, d2, d3, d4, d5, d6, d7, d8, d9⟩ := cs5_of Z0.out.box; (try clear e0 e1 e2 e3 e4 e5 e6 e7 e8 e9); obtain ⟨e0, e1, e2, e3, e4, e5, e6, e7, e8, e9⟩ := cs5_of Z0.out.res))
            have HW : Aside0 (Bx w (w5.setCell ⟨w.heap.size, 3, none⟩ (.slice AE nE cE)) #[.slice A n c, .int .i64 need, .int .i64 left, .slice AE nE cE, .slice C p q] #[.slice none 0 0, .int .i64 0, .int .i64 0, .slice none 0 0, .slice none 0 0]) := ⟨Z0.out.put 3 (.slice AE nE cE)⟩
            have hg := Gu.grown_set (g := w.heap.size) (grown_of_below (Below.refl w5.heap.size w5) (some w.heap.size)) 3 (.slice AE nE cE)
            have RE1 := Aside0.mk (RE.out.grown hg (fun hp ad e => by have := FE.out hp ad e; have := SZ.out; omega))
            clear d0 d1 d2 d3 d4 d5 d6 d7 d8 d9
            obtain ⟨d0, d1, d2, d3, d4, d5, d6, d7, d8, d9⟩ := cs5_of HW.out.box
            obtain ⟨e0, e1, e2, e3, e4, e5, e6, e7, e8, e9⟩ := cs5_of HW.out.res
            have hlen : nE ≤ 1000 := by
              have h1 := RE.out.len
              have h2 := sel_len (fun n => decide ((n : Int) ∈ inn) || decide ((n : Int) ∈ [id]))
              have h3 : (more inn id).length ≤ 64 := h2
              omega
            have HLEN := Aside0.mk hlen
            clear hlen hg RE
            generalize w5.setCell ⟨w.heap.size, 3, none⟩ (.slice AE nE cE) = w4 at *
            go_wp2_with fail
            have ZS := HW.out.store (.slice A n c) (.int .i64 need) (.int .i64 left) (.slice AE nE cE) (.slice C p q)
            have hb5 := st5_below (o := w.heap.size + 1) w4 (.slice A n c) (.int .i64 need) (.int .i64 left) (.slice AE nE cE) (.slice C p q)
            refine bodyPost_ret (rcame_res rfl rfl ZS) rfl ⟨_, _, _, _, _, _, rfl, ⟨RE1.out.grown hb5 (fun hp ad e => by have := FE.out hp ad e; have := SZ.out; omega), HLEN.out, fun hp ad e he => ?_⟩, ⟨RC.out.below ZS.bel, LC.out, VC.out⟩, ZS.bel⟩
            have h1 := FE.out hp ad e
            have h2 := AL.out _ he
            have h3 := SZ.out
            omega
          | true =>
            obtain rfl : inn = inn1 := by have := HIN.out; rwa [if_neg (fun h => by cases h.2)] at this
            obtain rfl : more gone id = gone1 := by have := HGO.out; rwa [if_pos ⟨rfl, rfl⟩] at this
            clear HIN HGO HNO
            go_upto_region 10 with (first | (go_at_call 38; (with_reducible refine (rstate_is _ (RA.out.below Z0.out.bel) (RB.out.below Z0.out.bel) (RC.out.below Z0.out.bel) LA.out LC.out ST.out).mono ?_); rintro e w5 ⟨rfl, hb⟩; have Z1_ := Aside0.mk (Z0.out.below hb); clear Z0; have Z0 := Z1_; clear Z1_ hb; clear d0 d1 d2 d3 d4 d5 d6 d7 d8 d9; obtain ⟨d0, d1, d2, d3, d4, d5, d6, d7, d8, d9⟩ := cs5_of Z0.out.box; (try clear e0 e1 e2 e3 e4 e5 e6 e7 e8 e9); obtain ⟨e0, e1, e2, e3, e4, e5, e6, e7, e8, e9⟩ := cs5_of Z0.out.res) | (go_at_call 19; (with_reducible refine (hasr_is _ _ (RA.out.below Z0.out.bel) LA.out H1.out).mono ?_); rintro e w5 ⟨rfl, hb⟩; have Z1_ := Aside0.mk (Z0.out.below hb); clear Z0; have Z0 := Z1_; clear Z1_ hb; clear d0 d1 d2 d3 d4 d5 d6 d7 d8 d9; obtain ⟨d0, d1, d2, d3, d4, d5, d6, d7, d8, d9⟩ := cs5_of Z0.out.box; (try clear e0 e1 e2 e3 e4 e5 e6 e7 e8 e9); obtain ⟨e0, e1, e2, e3, e4, e5, e6, e7, e8, e9⟩ := cs5_of Z0.out.res) | (go_at_call 19; (with_reducible refine (hasr_is _ _ (RB.out.below Z0.out.bel) LB.out H2.out).mono ?_); rintro e w5 ⟨rfl, hb⟩; have Z1_ := Aside0.mk (Z0.out.below hb); clear Z0; have Z0 := Z1_; clear Z1_ hb; clear d0 d1 d2 d3 d4 d5 d6 d7 d8 d9; obtain ⟨d0, d1, d2, d3, d4, d5, d6, d7, d8, d9⟩ := cs5_of Z0.out.box; (try clear e0 e1 e2 e3 e4 e5 e6 e7 e8 e9); obtain ⟨e0, e1, e2, e3, e4, e5, e6, e7, e8, e9⟩ := cs5_of Z0.out.res) | (go_at_call 19; (with_reducible refine (hasr_is _ _ (RC.out.below Z0.out.bel) LC.out H3.out).mono ?_); rintro e w5 ⟨rfl, hb⟩; have Z1_ := Aside0.mk (Z0.out.below hb); clear Z0; have Z0 := Z1_; clear Z1_ hb; clear d0 d1 d2 d3 d4 d5 d6 d7 d8 d9; obtain ⟨d0, d1, d2, d3, d4, d5, d6, d7, d8, d9⟩ := cs5_of Z0.out.box; (try clear e0 e1 e2 e3 e4 e5 e6 e7 e8 e9); obtain ⟨e0, e1, e2, e3, e4, e5, e6, e7, e8, e9⟩ := cs5_of Z0.out.res) | ((with_reducible refine gate_dst (N := 33) rfl ?_); (try (refine gate_guard (by rfl) ?_; dsimp only)); refine Kd.R_lit (Kd.int .i64) _ 3 ?hg (N := 33) ?hd (xs := [id]) (inner := [.int .i64 id]) (ok := fun _ => True) (okp := fun _ => True) ?hr ?hp (fun _ hk => hk) trivial (Below.refl _ _) (Nat.le_refl _) (by simp) ?_; (case hd => rfl); (case hg => rfl); (case hr => first | (go_simp; done) | (go_simp; rfl)); (case hp => exact (Reps.one (show Kd.M (Kd.int .i64) _ _ _ id [.int .i64 id] from rfl) (Reps.none _ _))); intro vL wL hoL hbL _ _; obtain ⟨AL1, cL, rfl, hRL⟩ := Gu.Rn.of_Rn (n := 1) hoL rfl; have RL := Aside0.mk hRL; have hb := hbL; clear hoL hbL hRL; have Z1_ := Aside0.mk (Z0.out.below hb); clear Z0; have Z0 := Z1_; clear Z1_ hb; clear d0 d1 d2 d3 d4 d5 d6 d7 d8 d9; obtain ⟨d0, d1, d2, d3, d4, d5, d6, d7, d8, d9⟩ := cs5_of Z0.out.box; (try clear e0 e1 e2 e3 e4 e5 e6 e7 e8 e9); obtain ⟨e0, e1, e2, e3, e4, e5, e6, e7, e8, e9⟩ := cs5_of Z0.out.res) | (go_at_call 40; (with_reducible refine (some_f (RC.out.below Z0.out.bel) LC.out RL.out (by decide)).mono ?_); rintro e w5 ⟨AE, nE, cE, rfl, hrE, hb, hfE⟩; have RE := Aside0.mk hrE; have SZ := Aside0.mk (Nat.lt_of_lt_of_le (Nat.lt_succ_self _) (blk_lt Z0.out.res)); have FE := Aside0.mk (le_of_f hfE (blk_lt Z0.out.res)); clear hrE hfE RL; have Z1_ := Aside0.mk (Z0.out.below hb); clear Z0; have Z0 := Z1_; clear Z1_ hb; clear d0 d1 d2 d3 d4 d5 d6 d7 d8 d9; obtain ⟨d0, d1, d2, d3, d4, d5, d6, d7, d8, d9⟩ := cs5_of Z0.out.box; (try clear e0 e1 e2 e3 e4 e5 e6 e7 e8 e9); obtain ⟨e0, e1, e2, e3, e4, e5, e6, e7, e8, e9⟩ := cs5_of Z0.out.res))
            have HW : Aside0 (Bx w (w5.setCell ⟨w.heap.size, 4, none⟩ (.slice AE nE cE)) #[.slice A n c, .int .i64 need, .int .i64 left, .slice B m d, .slice AE nE cE] #[.slice none 0 0, .int .i64 0, .int .i64 0, .slice none 0 0, .slice none 0 0]) := ⟨Z0.out.put 4 (.slice AE nE cE)⟩
            have hg := Gu.grown_set (g := w.heap.size) (grown_of_below (Below.refl w5.heap.size w5) (some w.heap.size)) 4 (.slice AE nE cE)
            have RE1 := Aside0.mk (RE.out.grown hg (fun hp ad e => by have := FE.out hp ad e; have := SZ.out; omega))
            clear d0 d1 d2 d3 d4 d5 d6 d7 d8 d9
            obtain ⟨d0, d1, d2, d3, d4, d5, d6, d7, d8, d9⟩ := cs5_of HW.out.box
            obtain ⟨e0, e1, e2, e3, e4, e5, e6, e7, e8, e9⟩ := cs5_of HW.out.res
            have hlen : nE ≤ 1000 := by
              have h1 := RE.out.len
              have h2 := sel_len (fun n => decide ((n : Int) ∈ gone) || decide ((n : Int) ∈ [id]))
              have h3 : (more gone id).length ≤ 64 := h2
              omega
            have HLEN := Aside0.mk hlen
            clear hlen hg RE
            generalize w5.setCell ⟨w.heap.size, 4, none⟩ (.slice AE nE cE) = w4 at *
            go_wp2_with fail
            have ZS := HW.out.store (.slice A n c) (.int .i64 need) (.int .i64 left) (.slice B m d) (.slice AE nE cE)
            have hb5 := st5_below (o := w.heap.size + 1) w4 (.slice A n c) (.int .i64 need) (.int .i64 left) (.slice B m d) (.slice AE nE cE)
            refine bodyPost_ret (rcame_res rfl rfl ZS) rfl ⟨_, _, _, _, _, _, rfl, ⟨RB.out.below ZS.bel, LB.out, VB.out⟩, ⟨RE1.out.grown hb5 (fun hp ad e => by have := FE.out hp ad e; have := SZ.out; omega), HLEN.out, fun hp ad e he => ?_⟩, ZS.bel⟩
            have h1 := FE.out hp ad e
            have h2 := AL.out _ he
            have h3 := SZ.out
            omega
  · rw [if_neg (by decide)] at hcd
    subst hcd
    obtain ⟨rfl, rfl⟩ := HNO.out (by decide)
    clear HIN HGO HNO
    go_wp2_with (first | (go_at_call 38; (with_reducible refine (rstate_is _ (RA.out.below Z0.out.bel) (RB.out.below Z0.out.bel) (RC.out.below Z0.out.bel) LA.out LC.out ST.out).mono ?_); rintro e w5 ⟨rfl, hb⟩; have Z1_ := Aside0.mk (Z0.out.below hb); clear Z0; have Z0 := Z1_; clear Z1_ hb; clear d0 d1 d2 d3 d4 d5 d6 d7 d8 d9; obtain ⟨d0, d1, d2, d3, d4, d5, d6, d7, d8, d9⟩ := cs5_of Z0.out.box; (try clear e0 e1 e2 e3 e4 e5 e6 e7 e8 e9); obtain ⟨e0, e1, e2, e3, e4, e5, e6, e7, e8, e9⟩ := cs5_of Z0.out.res))
    have ZS := Z0.out.store (.slice A n c) (.int .i64 need) (.int .i64 left) (.slice B m d) (.slice C p q)
    exact bodyPost_ret (rcame_res rfl rfl ZS) rfl ⟨_, _, _, _, _, _, rfl, ⟨RB.out.below ZS.bel, LB.out, VB.out⟩, ⟨RC.out.below ZS.bel, LC.out, VC.out⟩, ZS.bel⟩
  · rw [if_neg (by decide)] at hcd
    subst hcd
    obtain ⟨rfl, rfl⟩ := HNO.out (by decide)
    clear HIN HGO HNO
    go_wp2_with (first | (go_at_call 38; (with_reducible refine (rstate_is _ (RA.out.below Z0.out.bel) (RB.out.below Z0.out.bel) (RC.out.below Z0.out.bel) LA.out LC.out ST.out).mono ?_); rintro e w5 ⟨rfl, hb⟩; have Z1_ := Aside0.mk (Z0.out.below hb); clear Z0; have Z0 := Z1_; clear Z1_ hb; clear d0 d1 d2 d3 d4 d5 d6 d7 d8 d9; obtain ⟨d0, d1, d2, d3, d4, d5, d6, d7, d8, d9⟩ := cs5_of Z0.out.box; (try clear e0 e1 e2 e3 e4 e5 e6 e7 e8 e9); obtain ⟨e0, e1, e2, e3, e4, e5, e6, e7, e8, e9⟩ := cs5_of Z0.out.res))
    have ZS := Z0.out.store (.slice A n c) (.int .i64 need) (.int .i64 left) (.slice B m d) (.slice C p q)
    exact bodyPost_ret (rcame_res rfl rfl ZS) rfl ⟨_, _, _, _, _, _, rfl, ⟨RB.out.below ZS.bel, LB.out, VB.out⟩, ⟨RC.out.below ZS.bel, LC.out, VC.out⟩, ZS.bel⟩

set_option maxRecDepth 100000 in
set_option maxHeartbeats 1000000 in
theorem rtick_is (ha : Rn w A n c who) (hb : Rn w B m d inn) (hc : Rn w C p q gone) (hn : n ≤ 1000) (hp : p ≤ 1000) (h0 : 0 ≤ left) (h1 : left ≤ 1000) :
    Calls Tryd.prog 37 #[.agg #[.slice A n c, .int .i64 need, .int .i64 left, .slice B m d, .slice C p q]] w
      (Sc.Told (.agg #[.slice A n c, .int .i64 need, .int .i64 (if st who inn gone need left = 0 then left - 1 else left), .slice B m d, .slice C p q]) w) := by
  obtain ⟨lf, hlf⟩ : ∃ x, (if st who inn gone need left = 0 then left - 1 else left) = x := ⟨_, rfl⟩
  rw [hlf]
  have RA := Aside0.mk ha
  have RB := Aside0.mk hb
  have RC := Aside0.mk hc
  have LA := Aside0.mk hn
  have LC := Aside0.mk hp
  clear ha hb hc hn hp
  have hv := stq_vals who.length inn.length gone.length need left
  obtain ⟨v, hst⟩ : ∃ v, st who inn gone need left = v := ⟨_, rfl⟩
  rw [show stq who.length inn.length gone.length need left = v from hst] at hv
  rw [hst] at hlf
  have ST := Aside0.mk hst
  clear hst
  have hw : wrap64 (left - 1) = left - 1 := wrap64_in' _ (by omega) (by omega)
  have Z0 : Aside0 (Bx w ((w.alloc (.cells #[.slice A n c, .int .i64 need, .int .i64 left, .slice B m d, .slice C p q] 63)).alloc (.cells #[.slice none 0 0, .int .i64 0, .int .i64 0, .slice none 0 0, .slice none 0 0] 63)) #[.slice A n c, .int .i64 need, .int .i64 left, .slice B m d, .slice C p q] #[.slice none 0 0, .int .i64 0, .int .i64 0, .slice none 0 0, .slice none 0 0]) := ⟨Bx.new _ _ _⟩
  go_enter Tryd.func37, Tryd.ntmps37
  go_upto_region 1 with (fail)
  generalize (w.alloc (.cells #[.slice A n c, .int .i64 need, .int .i64 left, .slice B m d, .slice C p q] 63)).alloc (.cells #[.slice none 0 0, .int .i64 0, .int .i64 0, .slice none 0 0, .slice none 0 0] 63) = wb at *
  obtain ⟨d0, d1, d2, d3, d4, d5, d6, d7, d8, d9⟩ := cs5_of Z0.out.box
  rcases hv with rfl | rfl | rfl
  · rw [if_pos rfl] at hlf
    subst hlf
    go_upto_region 3 with (go_at_call 38; (with_reducible refine (rstate_is _ (RA.out.below Z0.out.bel) (RB.out.below Z0.out.bel) (RC.out.below Z0.out.bel) LA.out LC.out ST.out).mono ?_); rintro e w5 ⟨rfl, hb⟩; have Z1_ := Aside0.mk (Z0.out.below hb); clear Z0; have Z0 := Z1_; clear Z1_ hb; clear d0 d1 d2 d3 d4 d5 d6 d7 d8 d9; obtain ⟨d0, d1, d2, d3, d4, d5, d6, d7, d8, d9⟩ := cs5_of Z0.out.box; (try clear e0 e1 e2 e3 e4 e5 e6 e7 e8 e9); obtain ⟨e0, e1, e2, e3, e4, e5, e6, e7, e8, e9⟩ := cs5_of Z0.out.res)
    have HW : Aside0 (Bx w (w5.setCell ⟨w.heap.size, 2, none⟩ (.int .i64 (left - 1))) #[.slice A n c, .int .i64 need, .int .i64 (left - 1), .slice B m d, .slice C p q] #[.slice none 0 0, .int .i64 0, .int .i64 0, .slice none 0 0, .slice none 0 0]) := ⟨Z0.out.put 2 (.int .i64 (left - 1))⟩
    clear d0 d1 d2 d3 d4 d5 d6 d7 d8 d9
    obtain ⟨d0, d1, d2, d3, d4, d5, d6, d7, d8, d9⟩ := cs5_of HW.out.box
    obtain ⟨e0, e1, e2, e3, e4, e5, e6, e7, e8, e9⟩ := cs5_of HW.out.res
    generalize w5.setCell ⟨w.heap.size, 2, none⟩ (.int .i64 (left - 1)) = w4 at *
    go_wp2_with fail
    have ZS := HW.out.store (.slice A n c) (.int .i64 need) (.int .i64 (left - 1)) (.slice B m d) (.slice C p q)
    exact bodyPost_ret (rtick_res rfl ZS) rfl ⟨rfl, ZS.bel⟩
  · rw [if_neg (by decide)] at hlf
    subst hlf
    go_wp2_with (go_at_call 38; (with_reducible refine (rstate_is _ (RA.out.below Z0.out.bel) (RB.out.below Z0.out.bel) (RC.out.below Z0.out.bel) LA.out LC.out ST.out).mono ?_); rintro e w5 ⟨rfl, hb⟩; have Z1_ := Aside0.mk (Z0.out.below hb); clear Z0; have Z0 := Z1_; clear Z1_ hb; clear d0 d1 d2 d3 d4 d5 d6 d7 d8 d9; obtain ⟨d0, d1, d2, d3, d4, d5, d6, d7, d8, d9⟩ := cs5_of Z0.out.box; (try clear e0 e1 e2 e3 e4 e5 e6 e7 e8 e9); obtain ⟨e0, e1, e2, e3, e4, e5, e6, e7, e8, e9⟩ := cs5_of Z0.out.res)
    have ZS := Z0.out.store (.slice A n c) (.int .i64 need) (.int .i64 left) (.slice B m d) (.slice C p q)
    exact bodyPost_ret (rtick_res rfl ZS) rfl ⟨rfl, ZS.bel⟩
  · rw [if_neg (by decide)] at hlf
    subst hlf
    go_wp2_with (go_at_call 38; (with_reducible refine (rstate_is _ (RA.out.below Z0.out.bel) (RB.out.below Z0.out.bel) (RC.out.below Z0.out.bel) LA.out LC.out ST.out).mono ?_); rintro e w5 ⟨rfl, hb⟩; have Z1_ := Aside0.mk (Z0.out.below hb); clear Z0; have Z0 := Z1_; clear Z1_ hb; clear d0 d1 d2 d3 d4 d5 d6 d7 d8 d9; obtain ⟨d0, d1, d2, d3, d4, d5, d6, d7, d8, d9⟩ := cs5_of Z0.out.box; (try clear e0 e1 e2 e3 e4 e5 e6 e7 e8 e9); obtain ⟨e0, e1, e2, e3, e4, e5, e6, e7, e8, e9⟩ := cs5_of Z0.out.res)
    have ZS := Z0.out.store (.slice A n c) (.int .i64 need) (.int .i64 left) (.slice B m d) (.slice C p q)
    exact bodyPost_ret (rtick_res rfl ZS) rfl ⟨rfl, ZS.bel⟩
end
end Go.Proofs.YtfomajippdcaoaaDoor.Qu
