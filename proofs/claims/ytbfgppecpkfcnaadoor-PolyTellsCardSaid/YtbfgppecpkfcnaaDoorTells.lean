/-
  The law PolyTells, walked.
-/
import Derived.Test.YtbfgppecpkfcnaaDoorTellsFacts
namespace Go.Proofs.YtbfgppecpkfcnaaDoor.PPoly
open Go.RowKit Go.Proofs.YtbfgppecpkfcnaaDoorW.PrintWords Go.Proofs.YtbfgppecpkfcnaaDoorW.PrintLast Go.Proofs.YtbfgppecpkfcnaaDoorW.PrintMore Go.Proofs.YtbfgppecpkfcnaaDoor.PFp Go.Proofs.YtbfgppecpkfcnaaDoor.Fq

set_option maxRecDepth 100000 in
set_option maxHeartbeats 2000000 in
theorem tells_sure (A B : Option Addr) (m n ca cb : Nat) (t many : Int) (w : World) (hG : As.LaidG w) (h : 40 < m ∨ (16 < n ∧ n ≤ 64) ∨ 100 < n) :
    Calls Tryd.prog 10 #[.slice A m ca, .slice B n cb, .agg #[.int .u64 t, .int .i64 many]] w (Ap.Told (.bool true) w) := by
  have HG := Aside0.mk (As.LaidG.below hG (below_alloc (Below.refl w.heap.size w) (.cells #[.int .u64 t, .int .i64 many] 58)))
  clear hG
  by_cases h1 : 40 < m
  · have q1 : decide (40 < (m : Int)) = true := decide_eq_true (by omega)
    have q2 : decide (40 < m) = true := decide_eq_true h1
    clear h h1
    go_enter Tryd.func10, Tryd.ntmps10
    go_wp2_with (go_at_call 40; (with_reducible refine (sure_is _ HG.out).mono ?_); rintro e ws ⟨rfl, hb⟩)
    go_ret
    exact ⟨rfl, below_step (below_alloc (Below.refl _ _) _) hb⟩
  · have q1 : decide (40 < (m : Int)) = false := decide_eq_false (by omega)
    have q2 : decide (40 < m) = false := decide_eq_false h1
    have q3 : decide (16 < (n : Int)) = true := decide_eq_true (by omega)
    have q4 : decide (16 < n) = true := decide_eq_true (by omega)
    by_cases h2 : n ≤ 64
    · have q5 : decide ((n : Int) ≤ 64) = true := decide_eq_true (by omega)
      have q6 : decide (n ≤ 64) = true := decide_eq_true h2
      clear h h1 h2
      go_enter Tryd.func10, Tryd.ntmps10
      go_wp2_with (go_at_call 40; (with_reducible refine (sure_is _ HG.out).mono ?_); rintro e ws ⟨rfl, hb⟩)
      go_ret
      exact ⟨rfl, below_step (below_alloc (Below.refl _ _) _) hb⟩
    · have q5 : decide ((n : Int) ≤ 64) = false := decide_eq_false (by omega)
      have q6 : decide (n ≤ 64) = false := decide_eq_false h2
      have q7 : decide (100 < (n : Int)) = true := decide_eq_true (by omega)
      have q8 : decide (100 < n) = true := decide_eq_true (by omega)
      clear h h1 h2
      go_enter Tryd.func10, Tryd.ntmps10
      go_wp2_with (go_at_call 40; (with_reducible refine (sure_is _ HG.out).mono ?_); rintro e ws ⟨rfl, hb⟩)
      go_ret
      exact ⟨rfl, below_step (below_alloc (Below.refl _ _) _) hb⟩

theorem nl_take_next (p : List (Nat × Nat)) (j : Nat) (h : j < p.length) : nl ((pX p).take (j + 1)) = nl ((pX p).take j) ++ [(p[j].1 : Int)] := by
  rw [nl_next (pX p) j (by rw [pX_len]; exact h)]
  simp [pX]
theorem q_cells {w : World} {n : Nat} {B : Option Addr} {l : List S69} {q x y : Int} (h : Qs n w B l) (h0 : 0 ≤ q) (h1 : q < (n : Int)) (e : rd_T69 l q = ⟨x, y⟩) : ∃ ad, B = some ad ∧ w.cell? (ad.add (q.toNat * 2)) = some (.int .u64 x) := by
  obtain ⟨ad, ead, hx0, hx1⟩ := at_T69 h q h0 h1
  rw [e] at hx0
  exact ⟨ad, ead, hx0⟩
theorem own_slice69 {w : World} {base : Nat} {ok : Nat → Prop} {v : Value} {l : List S69} {m : Nat} (h : Kd.R k69 69 w base ok v l) (hm : l.length = m) (h0 : 0 < m) : ∃ g c, v = .slice (some ⟨g, 0, none⟩) m c ∧ m ≤ c ∧ Qs m w (some ⟨g, 0, none⟩) l := by
  subst hm
  obtain ⟨A, c, e, hc, hC⟩ := Kd.R_reads h
  obtain ⟨_, inner, hown, _⟩ := h
  rcases hown.2 with ⟨_, h2⟩ | ⟨g, cap, cur, hv, _⟩
  · omega
  · rw [e] at hv
    injection hv with ha _ hc2
    subst ha
    exact ⟨g, c, e, hc, hC⟩
theorem share69 {w : World} {base m g d : Nat} {ok : Nat → Prop} {l : List S69} {q x y : Int} (h : Kd.R k69 69 w base ok (.slice (some ⟨g, 0, none⟩) m d) l) (hm : l.length = m) (h0 : 0 ≤ q) (h1 : q < (m : Int)) (e : rd_T69 l q = ⟨x, y⟩) : w.cell? ⟨g, q.toNat * 2, none⟩ = some (.int .u64 x) ∧ w.cell? ⟨g, q.toNat * 2 + 1, none⟩ = some (.int .u64 y) := by
  obtain ⟨g2, d2, e2, _, hC⟩ := own_slice69 h hm (by omega)
  injection e2 with e3
  injection e3 with e3
  injection e3 with e3
  subst e3
  obtain ⟨ad, ead, hx0, hx1⟩ := at_T69 hC q h0 h1
  cases ead
  rw [e, Addr.add_lit, Nat.zero_add] at hx0 hx1
  exact ⟨hx0, hx1⟩
/-- all that is known at the law's start -/
structure Start (w : World) (A B : Option Addr) (m n ca cb : Nat) (L : List Nat) (p : List (Nat × Nat)) (t : Nat) : Prop where
  g : As.LaidG w
  ra : Ns m w A (nl L)
  rb : Qs n w B (p69 p)
  ca : m ≤ ca
  cb : n ≤ cb
  la : L.length = m
  lb : p.length = n
  ua : LtU L
  ub : PtU p
  ut : t < 18446744073709551616

set_option linter.unusedSimpArgs false in
set_option maxRecDepth 100000 in
set_option maxHeartbeats 4000000 in
theorem tells_a_err (A B : Option Addr) (m n ca cb : Nat) (L : List Nat) (p : List (Nat × Nat)) (t : Nat) (many : Int) (w : World) (hS : Start w A B m n ca cb L p t) (h1 : m ≤ 40) (hap : ∃ e, apC (pX p) = some e) (h2 : n ≤ 16) :
    Calls Tryd.prog 10 #[.slice A m ca, .slice B n cb, .agg #[.int .u64 (t : Int), .int .i64 many]] w (Ap.Told (.bool true) w) := by
  have b0 : Below w.heap.size w (w.alloc (.cells #[.int .u64 (t : Int), .int .i64 many] 58)) := below_alloc (Below.refl _ _) _
  have bx : Box (w.alloc (.cells #[.int .u64 (t : Int), .int .i64 many] 58)) w.heap.size #[.int .u64 (t : Int), .int .i64 many] 58 := heap_alloc_new w _
  have q1 : decide (40 < (m : Int)) = false := decide_eq_false (by omega)
  have q2 : decide (40 < m) = false := decide_eq_false (by omega)
  have q7 : decide (100 < (n : Int)) = false := decide_eq_false (by omega)
  have q8 : decide (100 < n) = false := decide_eq_false (by omega)
  have q3 : decide (16 < (n : Int)) = false := decide_eq_false (by omega)
  have q4 : decide (16 < n) = false := decide_eq_false (by omega)
  have HN : Aside0 (n ≤ 100) := ⟨by omega⟩
  have HM : Aside0 (m ≤ 40) := ⟨h1⟩
  have ST := Aside0.mk hS
  have T1 : Aside0 (caucuslaw03_giveShares.f 1100 (p69 p) = some (p74 p)) := ⟨give_tells 1100 p (by have := hS.lb; omega) (by omega)⟩
  have T2 : Aside0 (poly_Through.f 1400 (p74 p) (t : Int) = some (((thrC p t).1 : Int), (thrC p t).2)) := ⟨through_all 1400 p hS.ub (by have := hS.lb; omega) t hS.ut (by omega)⟩
  have T3 : Aside0 (caucusref03_Through.f 6100 (p69 p) (t : Int) = some (((thrC p t).1 : Int), (apC (pX p)).getD 0)) := ⟨by rw [rthrough_all 6100 p (by have := hS.lb; omega) t (by omega), thrC_err]⟩
  have T4 : Aside0 (poly_Line.f 1600 (p74 p) many = some ((lineC p many).1, (lineC p many).2)) := ⟨line_tells 1600 p hS.ub many (by omega)⟩
  have T5 : Aside0 (caucusref03_Line.f 6300 (p69 p) many = some ((lineC p many).1, (lineC p many).2.getD 0)) := ⟨rline_tells 6300 p many (by omega)⟩
  have T6 : Aside0 (poly_Weights.f 1400 (nl (pX p)) (t : Int) = some (nl (wC (pX p) t), apC (pX p))) := ⟨weights_all 1400 (pX p) hS.ub.1 t hS.ut (by omega)⟩
  have T7 : Aside0 (poly_Eval.f 1001 (nl L) (t : Int) = some ((ev (L.map c) (c t)).val : Int)) := ⟨eval_tells 1001 L hS.ua (by have := hS.la; omega) t hS.ut (by omega)⟩
  have T8 : Aside0 (caucusref03_Eval.f 1600 (nl L) (t : Int) = some ((ev (L.map c) (c t)).val : Int)) := ⟨reval_tells 1600 L (by have := hS.la; omega) t (by omega)⟩
  have T9 : Aside0 ((thrC p t).2 = apC (pX p)) := ⟨thrC_err p t⟩
  rw [T9.out] at T2
  clear T9
  have WL : Aside0 ((nl (wC (pX p) t)).length ≤ 100) := ⟨by
    cases hap : apC (pX p) with
    | some e => rw [wC_err p t e hap]; simp
    | none => rw [wC_len p t hap]; have := hS.lb; omega⟩
  obtain ⟨ev1, hev⟩ : ∃ v, errW (apC (pX p)) = v := ⟨_, rfl⟩
  obtain ⟨lv, hlv⟩ : ∃ v, errW (lineC p many).2 = v := ⟨_, rfl⟩
  obtain ⟨wn, hwn⟩ : ∃ k, (nl (wC (pX p) t)).length = k := ⟨_, rfl⟩
  have EV := Aside0.mk hev
  have LV := Aside0.mk hlv
  have WN := Aside0.mk hwn
  have N1 : Aside0 (∀ W, As.LaidG W → Calls Tryd.prog 49 #[ev1] W (Ap.Told (.int .i64 ((apC (pX p)).getD 0)) W)) := ⟨fun W hW => num_c _ W _ hev hW⟩
  have N2 : Aside0 (∀ W, As.LaidG W → Calls Tryd.prog 49 #[lv] W (Ap.Told (.int .i64 ((lineC p many).2.getD 0)) W)) := ⟨fun W hW => num_c _ W _ hlv hW⟩
  generalize ((thrC p t).1 : Int) = v at *
  generalize (lineC p many).1 = li at *
  generalize (lineC p many).2.getD 0 = ln at *
  obtain ⟨en, hen⟩ : ∃ x, (apC (pX p)).getD 0 = x := ⟨_, rfl⟩
  rw [hen] at T3 N1
  have EN := Aside0.mk hen
  generalize ((ev (L.map c) (c t)).val : Int) = z at *
  clear hS hev hlv hwn hen
  obtain rfl : wn = 0 := by obtain ⟨e, hap⟩ := hap; rw [← WN.out, wC_err p t e hap]; rfl
  have en0 : en ≠ 0 := by
    obtain ⟨e, hap⟩ := hap
    have he := apC_pos hap
    have h3 := EN.out
    rw [hap] at h3
    have h4 : e = en := h3
    omega
  have z1 : decide (en = 0) = false := decide_eq_false en0
  have z2 : (en == 0) = false := by simp [en0]
  have z3 : (en = 0) = False := eq_false en0
  clear hap en0
  have LP : Aside0 ((p74 p).length = n) := ⟨by rw [p74_len]; exact ST.out.lb⟩
  have HB := Aside0.mk b0
  have BX := Aside0.mk bx
  obtain ⟨c0, c1⟩ := box_two BX.out
  clear b0 bx h1 h2
  go_enter Tryd.func10, Tryd.ntmps10
  go_wp2_with (first | (go_at_call 41; (with_reducible refine (give_c 1100 (p74 p) (ST.out.rb.below HB.out) ST.out.cb LP.out T1.out).mono ?_); rintro e_ w_ ⟨B2, d2, rfl, hd, _, hP, hb⟩; have PP := Aside0.mk hP; have DP := Aside0.mk hd; have T1_ := Aside0.mk (below_step HB.out hb); clear HB; have HB := T1_; clear T1_; have T1_ := Aside0.mk (BX.out.below hb); clear BX; have BX := T1_; clear T1_; (try clear c0); (try clear c1); obtain ⟨c0, c1⟩ := box_two BX.out; clear hb; clear hP hd) | (go_at_call 42; (with_reducible refine (through_c 1400 (t : Int) v (apC (pX p)) _ EV.out PP.out DP.out T2.out).mono ?_); rintro e_ w_ ⟨rfl, hb⟩; have T1_ := Aside0.mk (below_step HB.out hb); clear HB; have HB := T1_; clear T1_; have T1_ := Aside0.mk (BX.out.below hb); clear BX; have BX := T1_; clear T1_; have T1_ := Aside0.mk (PP.out.below hb); clear PP; have PP := T1_; clear T1_; (try clear c0); (try clear c1); obtain ⟨c0, c1⟩ := box_two BX.out; clear hb) | (go_at_call 43; (with_reducible refine (rthrough_c 6100 (t : Int) v _ (ST.out.rb.below HB.out) ST.out.cb T3.out).mono ?_); rintro e_ w_ ⟨rfl, hb⟩; have T1_ := Aside0.mk (below_step HB.out hb); clear HB; have HB := T1_; clear T1_; have T1_ := Aside0.mk (BX.out.below hb); clear BX; have BX := T1_; clear T1_; have T1_ := Aside0.mk (PP.out.below hb); clear PP; have PP := T1_; clear T1_; (try clear c0); (try clear c1); obtain ⟨c0, c1⟩ := box_two BX.out; clear hb) | (go_at_call 44; (with_reducible refine (line_c 1600 many li (lineC p many).2 lv LV.out PP.out DP.out T4.out).mono ?_); rintro e_ w_ ⟨rfl, hb⟩; have T1_ := Aside0.mk (below_step HB.out hb); clear HB; have HB := T1_; clear T1_; have T1_ := Aside0.mk (BX.out.below hb); clear BX; have BX := T1_; clear T1_; have T1_ := Aside0.mk (PP.out.below hb); clear PP; have PP := T1_; clear T1_; (try clear c0); (try clear c1); obtain ⟨c0, c1⟩ := box_two BX.out; clear hb) | (go_at_call 45; (with_reducible refine (rline_c 6300 many li ln (ST.out.rb.below HB.out) ST.out.cb T5.out).mono ?_); rintro e_ w_ ⟨rfl, hb⟩; have T1_ := Aside0.mk (below_step HB.out hb); clear HB; have HB := T1_; clear T1_; have T1_ := Aside0.mk (BX.out.below hb); clear BX; have BX := T1_; clear T1_; have T1_ := Aside0.mk (PP.out.below hb); clear PP; have PP := T1_; clear T1_; (try clear c0); (try clear c1); obtain ⟨c0, c1⟩ := box_two BX.out; clear hb))
  go_loopw [16, 17] (fun v16 v17 wr => ∃ (j : Nat), v17 = .int .i64 j ∧ j ≤ n ∧ Aside0 (Kd.R (Kd.int .u64) 22 wr w_.heap.size (fun _ => True) v16 (nl ((pX p).take j))) ∧ Aside0 (Below w_.heap.size w_ wr)) (fun _ v _ => 200 - (intOf v).toNat)
  case atStart => exact ⟨0, rfl, by omega, ⟨Kd.R_nil _ _ _ _ _⟩, ⟨Below.refl _ _⟩⟩
  case round =>
    obtain ⟨j, rfl, hj, RO, BR⟩ := hrel
    by_cases hlt : (j : Int) < (n : Int)
    · have hjn : j < n := by omega
      have hjp : j < p.length := by have := ST.out.lb; omega
      have HJ := Aside0.mk hjn
      have SN := Aside0.mk (nl_take_next p j hjp)
      obtain ⟨ad, ead, hx⟩ := q_cells (ST.out.rb.below (below_step HB.out BR.out)) (q := (j : Int)) (by omega) hlt (rd_p69 p j hjp)
      cases ead
      rw [Int.toNat_natCast] at hx
      have hn100 := HN.out
      have LS : Aside0 ((nl ((pX p).take j)).length ≤ 100) := ⟨by have := HN.out; rw [nl_len, List.length_take]; omega⟩
      generalize ((p[j]'_).1 : Int) = x1 at *
      generalize e1 : nl ((pX p).take (j + 1)) = s2 at *
      generalize nl ((pX p).take j) = s1 at *
      have E1 := Aside0.mk e1
      clear e1 hjp
      go_wp2_with (first | ((with_reducible refine gate_builtin (b := .append) (xs := #[.tmp 80, .tmp 86]) rfl ?_); at_builtin; refine Kd.R_append (Kd.int .u64) (w0 := w_) w_.heap.size rfl (.tmp 80) (.tmp 86) 55 22 (.int .u64 0) 8 rfl Tryd.underlying55 info22 rfl (by decide) (by omega) u16 s1 x1 [.int .u64 x1] (fun _ => True) (fun _ => False) rfl rfl ?aP (fun _ hk => hk.elim) ?aF ?aO ?aB ?aS ?aL ?_; (case aP => exact rfl); (case aB => exact BR.out); (case aF => exact (fun _ _ => trivial)); (case aO => exact RO.out); (case aS => exact BR.out.size); (case aL => have := LS.out; omega); intro v1_ w1_ ho hb hg hat; rw [← SN.out] at ho; have RO2 := Aside0.mk ho; have BR2 := Aside0.mk hb; clear ho hb hg hat RO BR))
      go_roundw
      case rel => exact ⟨j + 1, by go_num, by have := HJ.out; omega, by rw [E1.out]; exact RO2, BR2⟩
      case measure => simp [intOf]; have := HJ.out; have := HN.out; omega
    · obtain rfl : n = j := by omega
      rw [List.take_of_length_le (by rw [pX_len]; have := ST.out.lb; omega)] at RO
      obtain ⟨AX, cx, rfl, hcx, hX⟩ := Ns.of_R (n := n) RO.out (by rw [nl_len, pX_len]; exact ST.out.lb)
      have RX := Aside0.mk hX
      have CX := Aside0.mk hcx
      have T1_ := Aside0.mk (below_step HB.out BR.out); clear HB; have HB := T1_; clear T1_
      have T1_ := Aside0.mk (BX.out.below BR.out); clear BX; have BX := T1_; clear T1_
      clear c0 c1 RO hX hcx hlt hj
      obtain ⟨c0, c1⟩ := box_two BX.out
      go_upto_region 14 with (first | (go_at_call 46; (with_reducible refine (weights_c 1400 0 (t : Int) (nl (wC (pX p) t)) (apC (pX p)) _ EV.out WN.out RX.out CX.out T6.out).mono ?_); rintro e_ w7 ⟨WB, wd, rfl, hwd, hW, hb⟩; have WW := Aside0.mk hW; have DW := Aside0.mk hwd; have T1_ := Aside0.mk (below_step HB.out hb); clear HB; have HB := T1_; clear T1_; have T1_ := Aside0.mk (BX.out.below hb); clear BX; have BX := T1_; clear T1_; (try clear c0); (try clear c1); obtain ⟨c0, c1⟩ := box_two BX.out; clear hb; clear hW hwd))
      have TR := Aside0.mk (Below.refl w7.heap.size w7)
      have KC : Aside0 (∀ W, Below w7.heap.size w7 W → W.cell? ⟨w.heap.size, 0, none⟩ = some (.int .u64 (t : Int)) ∧ W.cell? ⟨w.heap.size, 1, none⟩ = some (.int .i64 many)) := ⟨fun W hW => box_two (BX.out.below hW)⟩
      go_region_held3 (fun W => W.cell? ⟨w.heap.size, 0, none⟩ = some (.int .u64 (t : Int)) ∧ W.cell? ⟨w.heap.size, 1, none⟩ = some (.int .i64 many))
        (first | exact KC.out _ (by repeat (first | exact TR.out | apply below_drew1 | apply below_alloc)))
        (first | (go_at_call 47; (with_reducible refine (eval_c 1001 (t : Int) z (ST.out.ra.below (below_step HB.out (by repeat (first | exact TR.out | apply below_drew1 | apply below_alloc)))) ST.out.ca T7.out).mono ?_); rintro e_ w8 ⟨rfl, hb⟩; have T1_ := Aside0.mk (below_step (by repeat (first | exact TR.out | apply below_drew1 | apply below_alloc)) hb); clear TR; have TR := T1_; clear T1_ hb) | (go_at_call 48; (with_reducible refine (reval_c 1600 (t : Int) z (ST.out.ra.below (below_step HB.out (by repeat (first | exact TR.out | apply below_drew1 | apply below_alloc)))) ST.out.ca T8.out).mono ?_); rintro e_ w8 ⟨rfl, hb⟩; have T1_ := Aside0.mk (below_step (by repeat (first | exact TR.out | apply below_drew1 | apply below_alloc)) hb); clear TR; have TR := T1_; clear T1_ hb) | (go_at_call 49; (with_reducible refine (N1.out _ (As.LaidG.below ST.out.g (below_step HB.out (by repeat (first | exact TR.out | apply below_drew1 | apply below_alloc))))).mono ?_); rintro e_ w8 ⟨rfl, hb⟩; have T1_ := Aside0.mk (below_step (by repeat (first | exact TR.out | apply below_drew1 | apply below_alloc)) hb); clear TR; have TR := T1_; clear T1_ hb) | (go_at_call 49; (with_reducible refine (N2.out _ (As.LaidG.below ST.out.g (below_step HB.out (by repeat (first | exact TR.out | apply below_drew1 | apply below_alloc))))).mono ?_); rintro e_ w8 ⟨rfl, hb⟩; have T1_ := Aside0.mk (below_step (by repeat (first | exact TR.out | apply below_drew1 | apply below_alloc)) hb); clear TR; have TR := T1_; clear T1_ hb))
      go_wp2_with (first | (go_at_call 40; (with_reducible refine (sure_is _ (As.LaidG.below ST.out.g (below_step HB.out (by repeat (first | exact TR.out | apply below_drew1 | apply below_alloc))))).mono ?_); rintro e_ w9 ⟨rfl, hb⟩; have T1_ := Aside0.mk (below_step (below_step HB.out (by repeat (first | exact TR.out | apply below_drew1 | apply below_alloc))) hb); clear HB; have HB := T1_; clear T1_ hb))
      go_ret
      exact ⟨rfl, HB.out⟩


set_option linter.unusedSimpArgs false in
set_option maxRecDepth 100000 in
set_option maxHeartbeats 4000000 in
theorem tells_b_err (A B : Option Addr) (m n ca cb : Nat) (L : List Nat) (p : List (Nat × Nat)) (t : Nat) (many : Int) (w : World) (hS : Start w A B m n ca cb L p t) (h1 : m ≤ 40) (hap : ∃ e, apC (pX p) = some e) (h2 : 64 < n ∧ n ≤ 100) :
    Calls Tryd.prog 10 #[.slice A m ca, .slice B n cb, .agg #[.int .u64 (t : Int), .int .i64 many]] w (Ap.Told (.bool true) w) := by
  have b0 : Below w.heap.size w (w.alloc (.cells #[.int .u64 (t : Int), .int .i64 many] 58)) := below_alloc (Below.refl _ _) _
  have bx : Box (w.alloc (.cells #[.int .u64 (t : Int), .int .i64 many] 58)) w.heap.size #[.int .u64 (t : Int), .int .i64 many] 58 := heap_alloc_new w _
  have q1 : decide (40 < (m : Int)) = false := decide_eq_false (by omega)
  have q2 : decide (40 < m) = false := decide_eq_false (by omega)
  have q7 : decide (100 < (n : Int)) = false := decide_eq_false (by omega)
  have q8 : decide (100 < n) = false := decide_eq_false (by omega)
  have q3 : decide (16 < (n : Int)) = true := decide_eq_true (by omega)
  have q4 : decide (16 < n) = true := decide_eq_true (by omega)
  have q5 : decide ((n : Int) ≤ 64) = false := decide_eq_false (by omega)
  have q6 : decide (n ≤ 64) = false := decide_eq_false (by omega)
  have HN : Aside0 (n ≤ 100) := ⟨by omega⟩
  have HM : Aside0 (m ≤ 40) := ⟨h1⟩
  have ST := Aside0.mk hS
  have T1 : Aside0 (caucuslaw03_giveShares.f 1100 (p69 p) = some (p74 p)) := ⟨give_tells 1100 p (by have := hS.lb; omega) (by omega)⟩
  have T2 : Aside0 (poly_Through.f 1400 (p74 p) (t : Int) = some (((thrC p t).1 : Int), (thrC p t).2)) := ⟨through_all 1400 p hS.ub (by have := hS.lb; omega) t hS.ut (by omega)⟩
  have T3 : Aside0 (caucusref03_Through.f 6100 (p69 p) (t : Int) = some (((thrC p t).1 : Int), (apC (pX p)).getD 0)) := ⟨by rw [rthrough_all 6100 p (by have := hS.lb; omega) t (by omega), thrC_err]⟩
  have T4 : Aside0 (poly_Line.f 1600 (p74 p) many = some ((lineC p many).1, (lineC p many).2)) := ⟨line_tells 1600 p hS.ub many (by omega)⟩
  have T5 : Aside0 (caucusref03_Line.f 6300 (p69 p) many = some ((lineC p many).1, (lineC p many).2.getD 0)) := ⟨rline_tells 6300 p many (by omega)⟩
  have T6 : Aside0 (poly_Weights.f 1400 (nl (pX p)) (t : Int) = some (nl (wC (pX p) t), apC (pX p))) := ⟨weights_all 1400 (pX p) hS.ub.1 t hS.ut (by omega)⟩
  have T7 : Aside0 (poly_Eval.f 1001 (nl L) (t : Int) = some ((ev (L.map c) (c t)).val : Int)) := ⟨eval_tells 1001 L hS.ua (by have := hS.la; omega) t hS.ut (by omega)⟩
  have T8 : Aside0 (caucusref03_Eval.f 1600 (nl L) (t : Int) = some ((ev (L.map c) (c t)).val : Int)) := ⟨reval_tells 1600 L (by have := hS.la; omega) t (by omega)⟩
  have T9 : Aside0 ((thrC p t).2 = apC (pX p)) := ⟨thrC_err p t⟩
  rw [T9.out] at T2
  clear T9
  have WL : Aside0 ((nl (wC (pX p) t)).length ≤ 100) := ⟨by
    cases hap : apC (pX p) with
    | some e => rw [wC_err p t e hap]; simp
    | none => rw [wC_len p t hap]; have := hS.lb; omega⟩
  obtain ⟨ev1, hev⟩ : ∃ v, errW (apC (pX p)) = v := ⟨_, rfl⟩
  obtain ⟨lv, hlv⟩ : ∃ v, errW (lineC p many).2 = v := ⟨_, rfl⟩
  obtain ⟨wn, hwn⟩ : ∃ k, (nl (wC (pX p) t)).length = k := ⟨_, rfl⟩
  have EV := Aside0.mk hev
  have LV := Aside0.mk hlv
  have WN := Aside0.mk hwn
  have N1 : Aside0 (∀ W, As.LaidG W → Calls Tryd.prog 49 #[ev1] W (Ap.Told (.int .i64 ((apC (pX p)).getD 0)) W)) := ⟨fun W hW => num_c _ W _ hev hW⟩
  have N2 : Aside0 (∀ W, As.LaidG W → Calls Tryd.prog 49 #[lv] W (Ap.Told (.int .i64 ((lineC p many).2.getD 0)) W)) := ⟨fun W hW => num_c _ W _ hlv hW⟩
  generalize ((thrC p t).1 : Int) = v at *
  generalize (lineC p many).1 = li at *
  generalize (lineC p many).2.getD 0 = ln at *
  obtain ⟨en, hen⟩ : ∃ x, (apC (pX p)).getD 0 = x := ⟨_, rfl⟩
  rw [hen] at T3 N1
  have EN := Aside0.mk hen
  generalize ((ev (L.map c) (c t)).val : Int) = z at *
  clear hS hev hlv hwn hen
  obtain rfl : wn = 0 := by obtain ⟨e, hap⟩ := hap; rw [← WN.out, wC_err p t e hap]; rfl
  have en0 : en ≠ 0 := by
    obtain ⟨e, hap⟩ := hap
    have he := apC_pos hap
    have h3 := EN.out
    rw [hap] at h3
    have h4 : e = en := h3
    omega
  have z1 : decide (en = 0) = false := decide_eq_false en0
  have z2 : (en == 0) = false := by simp [en0]
  have z3 : (en = 0) = False := eq_false en0
  clear hap en0
  have LP : Aside0 ((p74 p).length = n) := ⟨by rw [p74_len]; exact ST.out.lb⟩
  have HB := Aside0.mk b0
  have BX := Aside0.mk bx
  obtain ⟨c0, c1⟩ := box_two BX.out
  clear b0 bx h1 h2
  go_enter Tryd.func10, Tryd.ntmps10
  go_wp2_with (first | (go_at_call 41; (with_reducible refine (give_c 1100 (p74 p) (ST.out.rb.below HB.out) ST.out.cb LP.out T1.out).mono ?_); rintro e_ w_ ⟨B2, d2, rfl, hd, _, hP, hb⟩; have PP := Aside0.mk hP; have DP := Aside0.mk hd; have T1_ := Aside0.mk (below_step HB.out hb); clear HB; have HB := T1_; clear T1_; have T1_ := Aside0.mk (BX.out.below hb); clear BX; have BX := T1_; clear T1_; (try clear c0); (try clear c1); obtain ⟨c0, c1⟩ := box_two BX.out; clear hb; clear hP hd) | (go_at_call 42; (with_reducible refine (through_c 1400 (t : Int) v (apC (pX p)) _ EV.out PP.out DP.out T2.out).mono ?_); rintro e_ w_ ⟨rfl, hb⟩; have T1_ := Aside0.mk (below_step HB.out hb); clear HB; have HB := T1_; clear T1_; have T1_ := Aside0.mk (BX.out.below hb); clear BX; have BX := T1_; clear T1_; have T1_ := Aside0.mk (PP.out.below hb); clear PP; have PP := T1_; clear T1_; (try clear c0); (try clear c1); obtain ⟨c0, c1⟩ := box_two BX.out; clear hb) | (go_at_call 43; (with_reducible refine (rthrough_c 6100 (t : Int) v _ (ST.out.rb.below HB.out) ST.out.cb T3.out).mono ?_); rintro e_ w_ ⟨rfl, hb⟩; have T1_ := Aside0.mk (below_step HB.out hb); clear HB; have HB := T1_; clear T1_; have T1_ := Aside0.mk (BX.out.below hb); clear BX; have BX := T1_; clear T1_; have T1_ := Aside0.mk (PP.out.below hb); clear PP; have PP := T1_; clear T1_; (try clear c0); (try clear c1); obtain ⟨c0, c1⟩ := box_two BX.out; clear hb) | (go_at_call 44; (with_reducible refine (line_c 1600 many li (lineC p many).2 lv LV.out PP.out DP.out T4.out).mono ?_); rintro e_ w_ ⟨rfl, hb⟩; have T1_ := Aside0.mk (below_step HB.out hb); clear HB; have HB := T1_; clear T1_; have T1_ := Aside0.mk (BX.out.below hb); clear BX; have BX := T1_; clear T1_; have T1_ := Aside0.mk (PP.out.below hb); clear PP; have PP := T1_; clear T1_; (try clear c0); (try clear c1); obtain ⟨c0, c1⟩ := box_two BX.out; clear hb) | (go_at_call 45; (with_reducible refine (rline_c 6300 many li ln (ST.out.rb.below HB.out) ST.out.cb T5.out).mono ?_); rintro e_ w_ ⟨rfl, hb⟩; have T1_ := Aside0.mk (below_step HB.out hb); clear HB; have HB := T1_; clear T1_; have T1_ := Aside0.mk (BX.out.below hb); clear BX; have BX := T1_; clear T1_; have T1_ := Aside0.mk (PP.out.below hb); clear PP; have PP := T1_; clear T1_; (try clear c0); (try clear c1); obtain ⟨c0, c1⟩ := box_two BX.out; clear hb))
  go_loopw [16, 17] (fun v16 v17 wr => ∃ (j : Nat), v17 = .int .i64 j ∧ j ≤ n ∧ Aside0 (Kd.R (Kd.int .u64) 22 wr w_.heap.size (fun _ => True) v16 (nl ((pX p).take j))) ∧ Aside0 (Below w_.heap.size w_ wr)) (fun _ v _ => 200 - (intOf v).toNat)
  case atStart => exact ⟨0, rfl, by omega, ⟨Kd.R_nil _ _ _ _ _⟩, ⟨Below.refl _ _⟩⟩
  case round =>
    obtain ⟨j, rfl, hj, RO, BR⟩ := hrel
    by_cases hlt : (j : Int) < (n : Int)
    · have hjn : j < n := by omega
      have hjp : j < p.length := by have := ST.out.lb; omega
      have HJ := Aside0.mk hjn
      have SN := Aside0.mk (nl_take_next p j hjp)
      obtain ⟨ad, ead, hx⟩ := q_cells (ST.out.rb.below (below_step HB.out BR.out)) (q := (j : Int)) (by omega) hlt (rd_p69 p j hjp)
      cases ead
      rw [Int.toNat_natCast] at hx
      have hn100 := HN.out
      have LS : Aside0 ((nl ((pX p).take j)).length ≤ 100) := ⟨by have := HN.out; rw [nl_len, List.length_take]; omega⟩
      generalize ((p[j]'_).1 : Int) = x1 at *
      generalize e1 : nl ((pX p).take (j + 1)) = s2 at *
      generalize nl ((pX p).take j) = s1 at *
      have E1 := Aside0.mk e1
      clear e1 hjp
      go_wp2_with (first | ((with_reducible refine gate_builtin (b := .append) (xs := #[.tmp 80, .tmp 86]) rfl ?_); at_builtin; refine Kd.R_append (Kd.int .u64) (w0 := w_) w_.heap.size rfl (.tmp 80) (.tmp 86) 55 22 (.int .u64 0) 8 rfl Tryd.underlying55 info22 rfl (by decide) (by omega) u16 s1 x1 [.int .u64 x1] (fun _ => True) (fun _ => False) rfl rfl ?aP (fun _ hk => hk.elim) ?aF ?aO ?aB ?aS ?aL ?_; (case aP => exact rfl); (case aB => exact BR.out); (case aF => exact (fun _ _ => trivial)); (case aO => exact RO.out); (case aS => exact BR.out.size); (case aL => have := LS.out; omega); intro v1_ w1_ ho hb hg hat; rw [← SN.out] at ho; have RO2 := Aside0.mk ho; have BR2 := Aside0.mk hb; clear ho hb hg hat RO BR))
      go_roundw
      case rel => exact ⟨j + 1, by go_num, by have := HJ.out; omega, by rw [E1.out]; exact RO2, BR2⟩
      case measure => simp [intOf]; have := HJ.out; have := HN.out; omega
    · obtain rfl : n = j := by omega
      rw [List.take_of_length_le (by rw [pX_len]; have := ST.out.lb; omega)] at RO
      obtain ⟨AX, cx, rfl, hcx, hX⟩ := Ns.of_R (n := n) RO.out (by rw [nl_len, pX_len]; exact ST.out.lb)
      have RX := Aside0.mk hX
      have CX := Aside0.mk hcx
      have T1_ := Aside0.mk (below_step HB.out BR.out); clear HB; have HB := T1_; clear T1_
      have T1_ := Aside0.mk (BX.out.below BR.out); clear BX; have BX := T1_; clear T1_
      clear c0 c1 RO hX hcx hlt hj
      obtain ⟨c0, c1⟩ := box_two BX.out
      go_upto_region 14 with (first | (go_at_call 46; (with_reducible refine (weights_c 1400 0 (t : Int) (nl (wC (pX p) t)) (apC (pX p)) _ EV.out WN.out RX.out CX.out T6.out).mono ?_); rintro e_ w7 ⟨WB, wd, rfl, hwd, hW, hb⟩; have WW := Aside0.mk hW; have DW := Aside0.mk hwd; have T1_ := Aside0.mk (below_step HB.out hb); clear HB; have HB := T1_; clear T1_; have T1_ := Aside0.mk (BX.out.below hb); clear BX; have BX := T1_; clear T1_; (try clear c0); (try clear c1); obtain ⟨c0, c1⟩ := box_two BX.out; clear hb; clear hW hwd))
      have TR := Aside0.mk (Below.refl w7.heap.size w7)
      have KC : Aside0 (∀ W, Below w7.heap.size w7 W → W.cell? ⟨w.heap.size, 0, none⟩ = some (.int .u64 (t : Int)) ∧ W.cell? ⟨w.heap.size, 1, none⟩ = some (.int .i64 many)) := ⟨fun W hW => box_two (BX.out.below hW)⟩
      go_region_held3 (fun W => W.cell? ⟨w.heap.size, 0, none⟩ = some (.int .u64 (t : Int)) ∧ W.cell? ⟨w.heap.size, 1, none⟩ = some (.int .i64 many))
        (first | exact KC.out _ (by repeat (first | exact TR.out | apply below_drew1 | apply below_alloc)))
        (first | (go_at_call 47; (with_reducible refine (eval_c 1001 (t : Int) z (ST.out.ra.below (below_step HB.out (by repeat (first | exact TR.out | apply below_drew1 | apply below_alloc)))) ST.out.ca T7.out).mono ?_); rintro e_ w8 ⟨rfl, hb⟩; have T1_ := Aside0.mk (below_step (by repeat (first | exact TR.out | apply below_drew1 | apply below_alloc)) hb); clear TR; have TR := T1_; clear T1_ hb) | (go_at_call 48; (with_reducible refine (reval_c 1600 (t : Int) z (ST.out.ra.below (below_step HB.out (by repeat (first | exact TR.out | apply below_drew1 | apply below_alloc)))) ST.out.ca T8.out).mono ?_); rintro e_ w8 ⟨rfl, hb⟩; have T1_ := Aside0.mk (below_step (by repeat (first | exact TR.out | apply below_drew1 | apply below_alloc)) hb); clear TR; have TR := T1_; clear T1_ hb) | (go_at_call 49; (with_reducible refine (N1.out _ (As.LaidG.below ST.out.g (below_step HB.out (by repeat (first | exact TR.out | apply below_drew1 | apply below_alloc))))).mono ?_); rintro e_ w8 ⟨rfl, hb⟩; have T1_ := Aside0.mk (below_step (by repeat (first | exact TR.out | apply below_drew1 | apply below_alloc)) hb); clear TR; have TR := T1_; clear T1_ hb) | (go_at_call 49; (with_reducible refine (N2.out _ (As.LaidG.below ST.out.g (below_step HB.out (by repeat (first | exact TR.out | apply below_drew1 | apply below_alloc))))).mono ?_); rintro e_ w8 ⟨rfl, hb⟩; have T1_ := Aside0.mk (below_step (by repeat (first | exact TR.out | apply below_drew1 | apply below_alloc)) hb); clear TR; have TR := T1_; clear T1_ hb))
      go_wp2_with (first | (go_at_call 40; (with_reducible refine (sure_is _ (As.LaidG.below ST.out.g (below_step HB.out (by repeat (first | exact TR.out | apply below_drew1 | apply below_alloc))))).mono ?_); rintro e_ w9 ⟨rfl, hb⟩; have T1_ := Aside0.mk (below_step (below_step HB.out (by repeat (first | exact TR.out | apply below_drew1 | apply below_alloc))) hb); clear HB; have HB := T1_; clear T1_ hb))
      go_ret
      exact ⟨rfl, HB.out⟩


set_option linter.unusedSimpArgs false in
set_option maxRecDepth 100000 in
set_option maxHeartbeats 4000000 in
theorem tells_a_ok (A B : Option Addr) (m n ca cb : Nat) (L : List Nat) (p : List (Nat × Nat)) (t : Nat) (many : Int) (w : World) (hS : Start w A B m n ca cb L p t) (h1 : m ≤ 40) (hap : apC (pX p) = none) (h2 : n ≤ 16) :
    Calls Tryd.prog 10 #[.slice A m ca, .slice B n cb, .agg #[.int .u64 (t : Int), .int .i64 many]] w (Ap.Told (.bool true) w) := by
  have b0 : Below w.heap.size w (w.alloc (.cells #[.int .u64 (t : Int), .int .i64 many] 58)) := below_alloc (Below.refl _ _) _
  have bx : Box (w.alloc (.cells #[.int .u64 (t : Int), .int .i64 many] 58)) w.heap.size #[.int .u64 (t : Int), .int .i64 many] 58 := heap_alloc_new w _
  have q1 : decide (40 < (m : Int)) = false := decide_eq_false (by omega)
  have q2 : decide (40 < m) = false := decide_eq_false (by omega)
  have q7 : decide (100 < (n : Int)) = false := decide_eq_false (by omega)
  have q8 : decide (100 < n) = false := decide_eq_false (by omega)
  have q3 : decide (16 < (n : Int)) = false := decide_eq_false (by omega)
  have q4 : decide (16 < n) = false := decide_eq_false (by omega)
  have HN : Aside0 (n ≤ 100) := ⟨by omega⟩
  have HM : Aside0 (m ≤ 40) := ⟨h1⟩
  have ST := Aside0.mk hS
  have T1 : Aside0 (caucuslaw03_giveShares.f 1100 (p69 p) = some (p74 p)) := ⟨give_tells 1100 p (by have := hS.lb; omega) (by omega)⟩
  have T2 : Aside0 (poly_Through.f 1400 (p74 p) (t : Int) = some (((thrC p t).1 : Int), (thrC p t).2)) := ⟨through_all 1400 p hS.ub (by have := hS.lb; omega) t hS.ut (by omega)⟩
  have T3 : Aside0 (caucusref03_Through.f 6100 (p69 p) (t : Int) = some (((thrC p t).1 : Int), (apC (pX p)).getD 0)) := ⟨by rw [rthrough_all 6100 p (by have := hS.lb; omega) t (by omega), thrC_err]⟩
  have T4 : Aside0 (poly_Line.f 1600 (p74 p) many = some ((lineC p many).1, (lineC p many).2)) := ⟨line_tells 1600 p hS.ub many (by omega)⟩
  have T5 : Aside0 (caucusref03_Line.f 6300 (p69 p) many = some ((lineC p many).1, (lineC p many).2.getD 0)) := ⟨rline_tells 6300 p many (by omega)⟩
  have T6 : Aside0 (poly_Weights.f 1400 (nl (pX p)) (t : Int) = some (nl (wC (pX p) t), apC (pX p))) := ⟨weights_all 1400 (pX p) hS.ub.1 t hS.ut (by omega)⟩
  have T7 : Aside0 (poly_Eval.f 1001 (nl L) (t : Int) = some ((ev (L.map c) (c t)).val : Int)) := ⟨eval_tells 1001 L hS.ua (by have := hS.la; omega) t hS.ut (by omega)⟩
  have T8 : Aside0 (caucusref03_Eval.f 1600 (nl L) (t : Int) = some ((ev (L.map c) (c t)).val : Int)) := ⟨reval_tells 1600 L (by have := hS.la; omega) t (by omega)⟩
  have T9 : Aside0 ((thrC p t).2 = apC (pX p)) := ⟨thrC_err p t⟩
  rw [T9.out] at T2
  clear T9
  have WL : Aside0 ((nl (wC (pX p) t)).length ≤ 100) := ⟨by
    cases hap : apC (pX p) with
    | some e => rw [wC_err p t e hap]; simp
    | none => rw [wC_len p t hap]; have := hS.lb; omega⟩
  obtain ⟨ev1, hev⟩ : ∃ v, errW (apC (pX p)) = v := ⟨_, rfl⟩
  obtain ⟨lv, hlv⟩ : ∃ v, errW (lineC p many).2 = v := ⟨_, rfl⟩
  obtain ⟨wn, hwn⟩ : ∃ k, (nl (wC (pX p) t)).length = k := ⟨_, rfl⟩
  have EV := Aside0.mk hev
  have LV := Aside0.mk hlv
  have WN := Aside0.mk hwn
  have N1 : Aside0 (∀ W, As.LaidG W → Calls Tryd.prog 49 #[ev1] W (Ap.Told (.int .i64 ((apC (pX p)).getD 0)) W)) := ⟨fun W hW => num_c _ W _ hev hW⟩
  have N2 : Aside0 (∀ W, As.LaidG W → Calls Tryd.prog 49 #[lv] W (Ap.Told (.int .i64 ((lineC p many).2.getD 0)) W)) := ⟨fun W hW => num_c _ W _ hlv hW⟩
  generalize ((thrC p t).1 : Int) = v at *
  generalize (lineC p many).1 = li at *
  generalize (lineC p many).2.getD 0 = ln at *
  obtain ⟨en, hen⟩ : ∃ x, (apC (pX p)).getD 0 = x := ⟨_, rfl⟩
  rw [hen] at T3 N1
  have EN := Aside0.mk hen
  generalize ((ev (L.map c) (c t)).val : Int) = z at *
  clear hS hev hlv hwn hen
  obtain rfl : ev1 = .nilIface := by rw [← EV.out, hap]; rfl
  obtain rfl : en = 0 := by rw [← EN.out, hap]; rfl
  obtain rfl : n = wn := by rw [← WN.out, wC_len p t hap]; exact ST.out.lb.symm
  have AP := Aside0.mk hap
  clear hap
  have LP : Aside0 ((p74 p).length = n) := ⟨by rw [p74_len]; exact ST.out.lb⟩
  have HB := Aside0.mk b0
  have BX := Aside0.mk bx
  obtain ⟨c0, c1⟩ := box_two BX.out
  clear b0 bx h1 h2
  go_enter Tryd.func10, Tryd.ntmps10
  go_wp2_with (first | (go_at_call 41; (with_reducible refine (give_c 1100 (p74 p) (ST.out.rb.below HB.out) ST.out.cb LP.out T1.out).mono ?_); rintro e_ w_ ⟨B2, d2, rfl, hd, _, hP, hb⟩; have PP := Aside0.mk hP; have DP := Aside0.mk hd; have T1_ := Aside0.mk (below_step HB.out hb); clear HB; have HB := T1_; clear T1_; have T1_ := Aside0.mk (BX.out.below hb); clear BX; have BX := T1_; clear T1_; (try clear c0); (try clear c1); obtain ⟨c0, c1⟩ := box_two BX.out; clear hb; clear hP hd) | (go_at_call 42; (with_reducible refine (through_c 1400 (t : Int) v (apC (pX p)) _ EV.out PP.out DP.out T2.out).mono ?_); rintro e_ w_ ⟨rfl, hb⟩; have T1_ := Aside0.mk (below_step HB.out hb); clear HB; have HB := T1_; clear T1_; have T1_ := Aside0.mk (BX.out.below hb); clear BX; have BX := T1_; clear T1_; have T1_ := Aside0.mk (PP.out.below hb); clear PP; have PP := T1_; clear T1_; (try clear c0); (try clear c1); obtain ⟨c0, c1⟩ := box_two BX.out; clear hb) | (go_at_call 43; (with_reducible refine (rthrough_c 6100 (t : Int) v _ (ST.out.rb.below HB.out) ST.out.cb T3.out).mono ?_); rintro e_ w_ ⟨rfl, hb⟩; have T1_ := Aside0.mk (below_step HB.out hb); clear HB; have HB := T1_; clear T1_; have T1_ := Aside0.mk (BX.out.below hb); clear BX; have BX := T1_; clear T1_; have T1_ := Aside0.mk (PP.out.below hb); clear PP; have PP := T1_; clear T1_; (try clear c0); (try clear c1); obtain ⟨c0, c1⟩ := box_two BX.out; clear hb) | (go_at_call 44; (with_reducible refine (line_c 1600 many li (lineC p many).2 lv LV.out PP.out DP.out T4.out).mono ?_); rintro e_ w_ ⟨rfl, hb⟩; have T1_ := Aside0.mk (below_step HB.out hb); clear HB; have HB := T1_; clear T1_; have T1_ := Aside0.mk (BX.out.below hb); clear BX; have BX := T1_; clear T1_; have T1_ := Aside0.mk (PP.out.below hb); clear PP; have PP := T1_; clear T1_; (try clear c0); (try clear c1); obtain ⟨c0, c1⟩ := box_two BX.out; clear hb) | (go_at_call 45; (with_reducible refine (rline_c 6300 many li ln (ST.out.rb.below HB.out) ST.out.cb T5.out).mono ?_); rintro e_ w_ ⟨rfl, hb⟩; have T1_ := Aside0.mk (below_step HB.out hb); clear HB; have HB := T1_; clear T1_; have T1_ := Aside0.mk (BX.out.below hb); clear BX; have BX := T1_; clear T1_; have T1_ := Aside0.mk (PP.out.below hb); clear PP; have PP := T1_; clear T1_; (try clear c0); (try clear c1); obtain ⟨c0, c1⟩ := box_two BX.out; clear hb))
  go_loopw [16, 17] (fun v16 v17 wr => ∃ (j : Nat), v17 = .int .i64 j ∧ j ≤ n ∧ Aside0 (Kd.R (Kd.int .u64) 22 wr w_.heap.size (fun _ => True) v16 (nl ((pX p).take j))) ∧ Aside0 (Below w_.heap.size w_ wr)) (fun _ v _ => 200 - (intOf v).toNat)
  case atStart => exact ⟨0, rfl, by omega, ⟨Kd.R_nil _ _ _ _ _⟩, ⟨Below.refl _ _⟩⟩
  case round =>
    obtain ⟨j, rfl, hj, RO, BR⟩ := hrel
    by_cases hlt : (j : Int) < (n : Int)
    · have hjn : j < n := by omega
      have hjp : j < p.length := by have := ST.out.lb; omega
      have HJ := Aside0.mk hjn
      have SN := Aside0.mk (nl_take_next p j hjp)
      obtain ⟨ad, ead, hx⟩ := q_cells (ST.out.rb.below (below_step HB.out BR.out)) (q := (j : Int)) (by omega) hlt (rd_p69 p j hjp)
      cases ead
      rw [Int.toNat_natCast] at hx
      have hn100 := HN.out
      have LS : Aside0 ((nl ((pX p).take j)).length ≤ 100) := ⟨by have := HN.out; rw [nl_len, List.length_take]; omega⟩
      generalize ((p[j]'_).1 : Int) = x1 at *
      generalize e1 : nl ((pX p).take (j + 1)) = s2 at *
      generalize nl ((pX p).take j) = s1 at *
      have E1 := Aside0.mk e1
      clear e1 hjp
      go_wp2_with (first | ((with_reducible refine gate_builtin (b := .append) (xs := #[.tmp 80, .tmp 86]) rfl ?_); at_builtin; refine Kd.R_append (Kd.int .u64) (w0 := w_) w_.heap.size rfl (.tmp 80) (.tmp 86) 55 22 (.int .u64 0) 8 rfl Tryd.underlying55 info22 rfl (by decide) (by omega) u16 s1 x1 [.int .u64 x1] (fun _ => True) (fun _ => False) rfl rfl ?aP (fun _ hk => hk.elim) ?aF ?aO ?aB ?aS ?aL ?_; (case aP => exact rfl); (case aB => exact BR.out); (case aF => exact (fun _ _ => trivial)); (case aO => exact RO.out); (case aS => exact BR.out.size); (case aL => have := LS.out; omega); intro v1_ w1_ ho hb hg hat; rw [← SN.out] at ho; have RO2 := Aside0.mk ho; have BR2 := Aside0.mk hb; clear ho hb hg hat RO BR))
      go_roundw
      case rel => exact ⟨j + 1, by go_num, by have := HJ.out; omega, by rw [E1.out]; exact RO2, BR2⟩
      case measure => simp [intOf]; have := HJ.out; have := HN.out; omega
    · obtain rfl : n = j := by omega
      rw [List.take_of_length_le (by rw [pX_len]; have := ST.out.lb; omega)] at RO
      obtain ⟨AX, cx, rfl, hcx, hX⟩ := Ns.of_R (n := n) RO.out (by rw [nl_len, pX_len]; exact ST.out.lb)
      have RX := Aside0.mk hX
      have CX := Aside0.mk hcx
      have T1_ := Aside0.mk (below_step HB.out BR.out); clear HB; have HB := T1_; clear T1_
      have T1_ := Aside0.mk (BX.out.below BR.out); clear BX; have BX := T1_; clear T1_
      clear c0 c1 RO hX hcx hlt hj
      obtain ⟨c0, c1⟩ := box_two BX.out
      go_upto_region 14 with (first | (go_at_call 46; (with_reducible refine (weights_c 1400 n (t : Int) (nl (wC (pX p) t)) (apC (pX p)) _ EV.out WN.out RX.out CX.out T6.out).mono ?_); rintro e_ w7 ⟨WB, wd, rfl, hwd, hW, hb⟩; have WW := Aside0.mk hW; have DW := Aside0.mk hwd; have T1_ := Aside0.mk (below_step HB.out hb); clear HB; have HB := T1_; clear T1_; have T1_ := Aside0.mk (BX.out.below hb); clear BX; have BX := T1_; clear T1_; (try clear c0); (try clear c1); obtain ⟨c0, c1⟩ := box_two BX.out; clear hb; clear hW hwd))
      have TR := Aside0.mk (Below.refl w7.heap.size w7)
      have KC : Aside0 (∀ W, Below w7.heap.size w7 W → W.cell? ⟨w.heap.size, 0, none⟩ = some (.int .u64 (t : Int)) ∧ W.cell? ⟨w.heap.size, 1, none⟩ = some (.int .i64 many)) := ⟨fun W hW => box_two (BX.out.below hW)⟩
      go_region_held3 (fun W => W.cell? ⟨w.heap.size, 0, none⟩ = some (.int .u64 (t : Int)) ∧ W.cell? ⟨w.heap.size, 1, none⟩ = some (.int .i64 many))
        (first | exact KC.out _ (by repeat (first | exact TR.out | apply below_drew1 | apply below_alloc)))
        (first | (go_at_call 47; (with_reducible refine (eval_c 1001 (t : Int) z (ST.out.ra.below (below_step HB.out (by repeat (first | exact TR.out | apply below_drew1 | apply below_alloc)))) ST.out.ca T7.out).mono ?_); rintro e_ w8 ⟨rfl, hb⟩; have T1_ := Aside0.mk (below_step (by repeat (first | exact TR.out | apply below_drew1 | apply below_alloc)) hb); clear TR; have TR := T1_; clear T1_ hb) | (go_at_call 48; (with_reducible refine (reval_c 1600 (t : Int) z (ST.out.ra.below (below_step HB.out (by repeat (first | exact TR.out | apply below_drew1 | apply below_alloc)))) ST.out.ca T8.out).mono ?_); rintro e_ w8 ⟨rfl, hb⟩; have T1_ := Aside0.mk (below_step (by repeat (first | exact TR.out | apply below_drew1 | apply below_alloc)) hb); clear TR; have TR := T1_; clear T1_ hb) | (go_at_call 49; (with_reducible refine (N1.out _ (As.LaidG.below ST.out.g (below_step HB.out (by repeat (first | exact TR.out | apply below_drew1 | apply below_alloc))))).mono ?_); rintro e_ w8 ⟨rfl, hb⟩; have T1_ := Aside0.mk (below_step (by repeat (first | exact TR.out | apply below_drew1 | apply below_alloc)) hb); clear TR; have TR := T1_; clear T1_ hb) | (go_at_call 49; (with_reducible refine (N2.out _ (As.LaidG.below ST.out.g (below_step HB.out (by repeat (first | exact TR.out | apply below_drew1 | apply below_alloc))))).mono ?_); rintro e_ w8 ⟨rfl, hb⟩; have T1_ := Aside0.mk (below_step (by repeat (first | exact TR.out | apply below_drew1 | apply below_alloc)) hb); clear TR; have TR := T1_; clear T1_ hb))
      have BO0 := Aside0.mk TR.out
      clear TR KC c0 c1
      go_wp2
      go_loopw [20] (fun v20 wr => ∃ (k : Nat), v20 = .int .i64 k ∧ k ≤ n ∧ Aside0 (Below w7.heap.size w7 wr)) (fun v _ => 200 - (intOf v).toNat)
      case atStart => exact ⟨0, rfl, by omega, BO0⟩
      case round =>
        obtain ⟨wo, hwo⟩ : ∃ x, x = wr := ⟨_, rfl⟩
        subst hwo
        obtain ⟨k, rfl, hk, BO⟩ := hrel
        by_cases hlt : (k : Int) < (n : Int)
        · have hkn : k < n := by omega
          have HK := Aside0.mk hkn
          have NP : Aside0 (0 < n) := ⟨by omega⟩
          go_wp2_with (first | ((with_reducible refine gate_builtin (b := .append) (xs := #[.tmp 146, .tmp 147]) rfl ?_); at_builtin; refine flat69.append _ rfl (.tmp 146) (.tmp 147) 56 69 rfl Tryd.underlying56 _ _ info69 rfl _ B 0 0 n cb [] (p69 p) rfl (by intro h; cases h) rfl ⟨rfl, by omega, fun h => absurd h (by omega)⟩ (ST.out.rb.below (below_step HB.out (below_step BO.out (below_alloc (Below.refl _ _) _)))) NP.out (by have := NP.out; omega) (by have := HN.out; omega) (by have := HN.out; omega) ?_; intro v_ w_ hR hb; have RO := Aside0.mk hR; have BR := Aside0.mk (below_step (below_alloc (Below.refl wo.heap.size wo) _) hb); clear hR hb))
          have RL := Kd.R_lower RO.out (show wo.heap.size ≤ _ by simp)
          obtain ⟨g, d, rfl, hd, _⟩ := own_slice69 (m := n) RL (by rw [List.nil_append, p69_len]; exact ST.out.lb) NP.out
          have RZ : Aside0 (Kd.R k69 69 w_ wo.heap.size (fun _ => True) (.slice (some ⟨g, 0, none⟩) n d) (p69 (zer p 0))) := ⟨by rw [zer_zero]; exact RL⟩
          have BZ := BR
          clear RL RO BR hd
          go_loopw [22] (fun v22 wi => ∃ (i : Nat), v22 = .int .i64 i ∧ i ≤ n ∧ Aside0 (Kd.R k69 69 wi wo.heap.size (fun _ => True) (.slice (some ⟨g, 0, none⟩) n d) (p69 (zer p i))) ∧ Aside0 (Below wo.heap.size wo wi)) (fun v _ => 200 - (intOf v).toNat)
          case atStart => exact ⟨0, rfl, by omega, RZ, BZ⟩
          case round =>
            clear RZ BZ
            obtain ⟨i, rfl, hi, RO, BR⟩ := hrel
            by_cases hil : (i : Int) < (n : Int)
            · have hin : i < n := by omega
              have hn100 := HN.out
              have hip : i < p.length := by have := ST.out.lb; omega
              have II := Aside0.mk hin
              have I1 : Aside0 ((i : Int) < (n : Int)) := ⟨hil⟩
              have hzr : rd_T69 (p69 (zer p i)) (i : Int) = ⟨(p[i].1 : Int), (p[i].2 : Int)⟩ := by
                rw [rd_p69 _ i (by rw [zer_len]; exact hip), zer_at, if_neg (by omega)]
              have ZN : Aside0 ((p69 (zer p i)).set i (⟨(p[i].1 : Int), 0⟩ : S69) = p69 (zer p (i + 1))) := ⟨by have h := p69_set (zer p i) i (p[i].1, 0); rw [zer_next p i hip] at h; exact h⟩
              obtain ⟨y0, y1⟩ := share69 RO.out (m := n) (by rw [p69_len, zer_len]; exact ST.out.lb) (Int.natCast_nonneg i) hil hzr
              rw [Int.toNat_natCast] at y0 y1
              generalize (p[i].1 : Int) = px at *
              generalize (p[i].2 : Int) = py at *
              clear hip hzr
              go_wp2_with (first | ((with_reducible refine gate_ (.store 22 (.tmp 158) (.const (.int .u64 0))) rfl ?_); refine Kd.R_store k69 (w0 := wo) wo.heap.size rfl rfl 22 (.tmp 158) (.const (.int .u64 0)) rfl 69 (i : Int) 1 (p69 (zer p i)) (⟨px, 0⟩ : S69) (.int .u64 0) [.int .u64 0] [.int .u64 px, .int .u64 py] (fun _ => True) (fun _ => False) (o' := i * 2 + 1) ?ha rfl rfl rfl ?ht ?h1 RO.out (Int.natCast_nonneg i) I1.out rfl ?hcc (Nat.le_refl 2) ?hM (fun _ h => h.elim) BR.out ?_; (case ha => first | rfl | (go_simp; done) | (go_simp; rfl)); (case ht => kernel_rfl); (case h1 => intro q hq; simp at hq; subst hq; rfl); (case hM => exact k69_mkM _ _ _ _); (case hcc => intro j u hj; match j, hj with | 0, hj => (simp at hj; subst hj; exact y0) | 1, hj => (simp at hj; subst hj; exact y1) | j + 2, hj => simp at hj); intro w_ ho hb hg; rw [Int.toNat_natCast, ZN.out] at ho; have RO2 := Aside0.mk ho; have BR2 := Aside0.mk hb; clear ho hb hg))
              go_roundw
              case rel => exact ⟨i + 1, by go_num, by have := II.out; omega, RO2, BR2⟩
              case measure => simp [intOf]; have := II.out; have := HN.out; omega
            · obtain rfl : n = i := by omega
              have hkp : k < p.length := by have := ST.out.lb; have := HK.out; omega
              have hnp : p.length = n := ST.out.lb
              have hn100 := HN.out
              have K1 : Aside0 ((k : Int) < (n : Int)) := ⟨by have := HK.out; omega⟩
              have hzk : rd_T69 (p69 (zer p n)) (k : Int) = ⟨(p[k].1 : Int), 0⟩ := by
                rw [rd_p69 _ k (by rw [zer_len]; exact hkp), zer_at, if_pos HK.out]
                rfl
              have UN : Aside0 ((p69 (zer p n)).set k (⟨(p[k].1 : Int), 1⟩ : S69) = p69 (uni p k p[k].1)) := ⟨by have h := p69_set (zer p p.length) k (p[k].1, 1); rw [show zer p n = zer p p.length by rw [hnp]]; exact h⟩
              have UL : Aside0 ((p69 (uni p k p[k].1)).length = n) := ⟨by rw [p69_len, uni_len]; exact hnp⟩
              have TU : Aside0 (caucusref03_Through.f 6100 (p69 (uni p k p[k].1)) (t : Int) = some (((lag (kX p) k (c t)).val : Int), 0)) := ⟨uni_tells 6100 p k hkp t AP.out (by omega)⟩
              have WK := wC_at p t k hkp AP.out
              obtain ⟨adw, eW, hw⟩ := Ap.row_cell WW.out k HK.out
              cases eW
              rw [WK] at hw
              have HW := Aside0.mk hw
              obtain ⟨y0, y1⟩ := share69 RO.out (m := n) (by rw [p69_len, zer_len]; exact hnp) (Int.natCast_nonneg k) K1.out hzk
              rw [Int.toNat_natCast] at y0 y1
              generalize p69 (uni p k p[k].1) = us at *
              generalize (p[k].1 : Int) = px at *
              generalize ((lag (kX p) k (c t)).val : Int) = lk at *
              clear hkp hnp hzk WK hw
              go_wp2_with (first | ((with_reducible refine gate_ (.store 22 (.tmp 162) (.const (.int .u64 1))) rfl ?_); refine Kd.R_store k69 (w0 := wo) wo.heap.size rfl rfl 22 (.tmp 162) (.const (.int .u64 1)) rfl 69 (k : Int) 1 (p69 (zer p n)) (⟨px, 1⟩ : S69) (.int .u64 1) [.int .u64 1] [.int .u64 px, .int .u64 0] (fun _ => True) (fun _ => False) (o' := k * 2 + 1) ?ha rfl rfl rfl ?ht ?h1 RO.out (Int.natCast_nonneg k) K1.out rfl ?hcc (Nat.le_refl 2) ?hM (fun _ h => h.elim) BR.out ?_; (case ha => first | rfl | (go_simp; done) | (go_simp; rfl)); (case ht => kernel_rfl); (case h1 => intro q hq; simp at hq; subst hq; rfl); (case hM => exact k69_mkM _ _ _ _); (case hcc => intro j u hj; match j, hj with | 0, hj => (simp at hj; subst hj; exact y0) | 1, hj => (simp at hj; subst hj; exact y1) | j + 2, hj => simp at hj); intro w_ ho hb hg; rw [Int.toNat_natCast, UN.out] at ho; obtain ⟨g2, d3, e2, hd2, hC2⟩ := own_slice69 (m := n) ho UL.out NP.out; obtain ⟨rfl, rfl⟩ : g = g2 ∧ d = d3 := (by injection e2 with e3 _ e4; injection e3 with e3; injection e3 with e3; exact ⟨e3, e4⟩); have QU := Aside0.mk hC2; have DU := Aside0.mk hd2; have BW := Aside0.mk (below_step BO.out hb); clear y0 y1 ho hb hg e2 hd2 hC2; obtain ⟨c0, c1⟩ := box_two (BX.out.below BW.out)) | (go_at_call 43; (with_reducible refine (rthrough_c 6100 (t : Int) lk 0 QU.out DU.out TU.out).mono ?_); rintro e_ w_ ⟨rfl, hb⟩; have BO2 := Aside0.mk (below_step BW.out hb); clear hb; have hw := (BO2.out.cell (World.block_lt_of_cell? _ _ HW.out)).trans HW.out))
              go_roundw
              case rel => exact ⟨k + 1, by go_num, by have := HK.out; omega, BO2⟩
              case measure => simp [intOf]; have := HK.out; have := HN.out; omega
        · go_wp2_with (first | (go_at_call 40; (with_reducible refine (sure_is _ (As.LaidG.below ST.out.g (below_step HB.out BO.out))).mono ?_); rintro e_ w9 ⟨rfl, hb⟩; have T1_ := Aside0.mk (below_step (below_step HB.out BO.out) hb); clear HB; have HB := T1_; clear T1_ hb))
          go_ret
          exact ⟨rfl, HB.out⟩

end Go.Proofs.YtbfgppecpkfcnaaDoor.PPoly
