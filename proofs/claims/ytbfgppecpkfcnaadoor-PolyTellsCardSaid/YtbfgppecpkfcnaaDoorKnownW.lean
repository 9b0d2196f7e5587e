/-
  The law PolyKnown, walked.
-/
import Derived.Test.YtbfgppecpkfcnaaDoorKnown
import Derived.OpenShut
namespace Go.Proofs.YtbfgppecpkfcnaaDoor.PPoly
open Go.RowKit Go.Proofs.YtbfgppecpkfcnaaDoorW.PrintWords Go.Proofs.YtbfgppecpkfcnaaDoorW.PrintLast Go.Proofs.YtbfgppecpkfcnaaDoorW.PrintMore Go.Proofs.YtbfgppecpkfcnaaDoor.PFp Go.Proofs.YtbfgppecpkfcnaaDoor.Fq

theorem uw (n : Int) (h0 : 0 ≤ n) (h1 : n < 18446744073709551616) : IntKind.u64.wrap n = n := by
  have e : IntKind.u64.wrap n = n % 18446744073709551616 := by simp [IntKind.wrap, IntKind.bits, IntKind.signed]
  rw [e]; omega
theorem cut_front (A : Option Addr) (m c n : Nat) (h : n ≤ m) (hc : m ≤ c) (W : World) : (Instr.slice 59 (.slice A m c) none (some (.int .i64 (n : Int))) none).run Tryd.prog W = .ok (.slice A n c) W := by
  obtain ⟨i, hi, _, hsz, _⟩ := info_parts info74
  have h := cut_to (P := Tryd.prog) 59 74 .i64 Tryd.underlying59 hi A m c (n : Int) (by omega) (by omega) hc W
  rw [Int.toNat_natCast] at h
  exact h
theorem cut_back (A : Option Addr) (m c : Nat) (l : List S74) (w : World) (h : Ps m w A l) (hc : m ≤ c) (h2 : 2 ≤ m) :
    ∃ B, (∀ W, (Instr.slice 59 (.slice A m c) (some (.int .i64 2)) none none).run Tryd.prog W = .ok (.slice B (m - 2) (c - 2)) W) ∧ Ps (m - 2) w B (l.drop 2) := by
  obtain ⟨i, hi, _, hsz, _⟩ := info_parts info74
  have hl := h.len
  have h1 := fun W => cut_from (P := Tryd.prog) 59 74 .i64 Tryd.underlying59 hi 2 hsz A m c 2 (by omega) (by omega) W
  have hd : Kd.C k74 w A l.length l := by rw [hl]; exact h
  have h3 := Kd.C_drop (m := 2) (c := c) hd (by omega) (by omega)
  refine ⟨_, h1, ?_⟩
  rw [List.length_drop, hl] at h3
  exact h3

theorem own_slice {w : World} {base : Nat} {ok : Nat → Prop} {v : Value} {l : List S74} {m : Nat} (h : Kd.R k74 74 w base ok v l) (hm : l.length = m) (h0 : 0 < m) : ∃ g c, v = .slice (some ⟨g, 0, none⟩) m c ∧ m ≤ c ∧ Ps m w (some ⟨g, 0, none⟩) l := by
  subst hm
  obtain ⟨A, c, e, hc, hC⟩ := Kd.R_reads h
  obtain ⟨_, inner, hown, _⟩ := h
  rcases hown.2 with ⟨_, h2⟩ | ⟨g, cap, cur, hv, _⟩
  · omega
  · rw [e] at hv
    injection hv with ha _ hc2
    subst ha
    exact ⟨g, c, e, hc, hC⟩
theorem bent_set (L : List Nat) (r : Nat) : (p74 (own L r (L.length + 2))).set (L.length + 1) (⟨((L.length + 1 + 1 + r : Nat) : Int), ((((ev (L.map c) (c (L.length + 1 + 1 + r))).val + 1) % PP : Nat) : Int)⟩ : S74) = p74 (bent L r) := by
  rw [own_next L r (L.length + 1), List.set_append_right _ _ (by rw [p74_len, own_len]; omega), p74_len, own_len, Nat.sub_self]
  unfold bent p74
  rw [List.map_append]
  rfl
theorem share_cells {w : World} {M g : Nat} {l : List S74} {q x y : Int} (h : Ps M w (some ⟨g, 0, none⟩) l) (h0 : 0 ≤ q) (h1 : q < (M : Int)) (e : rd_T74 l q = ⟨x, y⟩) : w.cell? ⟨g, q.toNat * 2, none⟩ = some (.int .u64 x) ∧ w.cell? ⟨g, q.toNat * 2 + 1, none⟩ = some (.int .u64 y) := by
  obtain ⟨ad, ead, hx0, hx1⟩ := at_T74 h q h0 h1
  cases ead
  rw [e, Addr.add_lit, Nat.zero_add] at hx0 hx1
  exact ⟨hx0, hx1⟩
theorem known_sure_a (A : Option Addr) (n c : Nat) (t r : Int) (w : World) (hG : As.LaidG w) (hn : n = 0 ∨ 10 < n) :
    Calls Tryd.prog 11 #[.slice A n c, .int .u64 t, .int .u8 r] w (Ap.Told (.bool true) w) := by
  have HG := Aside0.mk hG
  clear hG
  rcases hn with rfl | hn
  · go_enter Tryd.func11, Tryd.ntmps11
    go_wp2_with (go_at_call 40; (with_reducible refine (sure_is _ HG.out).mono ?_); rintro e ws ⟨rfl, hb⟩)
    go_ret
    exact ⟨rfl, hb⟩
  · have q1 : decide (10 < (n : Int)) = true := decide_eq_true (by omega)
    have q2 : decide (10 < n) = true := decide_eq_true (by omega)
    clear hn
    go_enter Tryd.func11, Tryd.ntmps11
    go_wp2_with (go_at_call 40; (with_reducible refine (sure_is _ HG.out).mono ?_); rintro e ws ⟨rfl, hb⟩)
    go_ret
    exact ⟨rfl, hb⟩

set_option maxRecDepth 100000 in
set_option maxHeartbeats 2000000 in
theorem known_go (A : Option Addr) (n ca : Nat) (L : List Nat) (t r : Nat) (hL : L.length = n) (h0 : 0 < n) (h10 : n ≤ 10) (hr : r < 256) (ht : t < 18446744073709551616) (hU : LtU L) (hca : n ≤ ca) (w : World) (hG : As.LaidG w) (hrow : Ns n w A (nl L)) :
    Calls Tryd.prog 11 #[.slice A n ca, .int .u64 t, .int .u8 r] w (Ap.Told (.bool true) w) := by
  have HG := Aside0.mk hG
  have ROW := Aside0.mk hrow
  have HL := Aside0.mk hL
  have HR := Aside0.mk hr
  have HU := Aside0.mk hU
  have HT := Aside0.mk ht
  have CA := Aside0.mk hca
  clear hG hrow hL hr hU ht hca
  have z1 : decide ((n : Int) = 0) = false := decide_eq_false (by omega)
  have z2 : decide (n = 0) = false := decide_eq_false (by omega)
  have z3 : ((n : Int) == 0) = false := by simp; omega
  have q1 : decide (10 < (n : Int)) = false := decide_eq_false (by omega)
  have q2 : decide (10 < n) = false := decide_eq_false (by omega)
  go_enter Tryd.func11, Tryd.ntmps11
  go_wp2
  go_loopw [7, 8] (fun v7 v8 wr => ∃ (j : Nat), v8 = .int .i64 j ∧ j ≤ n + 2 ∧ Aside0 (Kd.R k74 74 wr w.heap.size (fun _ => True) v7 (p74 (own L r j))) ∧ Aside0 (Below w.heap.size w wr)) (fun _ v _ => 20 - (intOf v).toNat)
  case atStart => exact ⟨0, rfl, by omega, ⟨Kd.R_nil _ _ _ _ _⟩, ⟨Below.refl _ _⟩⟩
  case round =>
    obtain ⟨j, rfl, hj, HO, HB⟩ := hrel
    by_cases hlt : (j : Int) < (n : Int) + 2
    · have hj2 : j < n + 2 := by omega
      have HJ := Aside0.mk hj2
      have hr0 := HR.out
      have W1 : IntKind.u64.wrap (j : Int) = (j : Int) := uw _ (by omega) (by omega)
      have W3 : IntKind.u64.wrap (r : Int) = (r : Int) := uw _ (by omega) (by omega)
      have W4 : IntKind.u64.wrap ((j : Int) + 1) = (j : Int) + 1 := uw _ (by omega) (by omega)
      have W5 : IntKind.u64.wrap ((j : Int) + 1 + (r : Int)) = ((j + 1 + r : Nat) : Int) := by rw [uw _ (by omega) (by omega)]; omega
      have EV : Aside0 (poly_Eval.f 1001 (nl L) ((j + 1 + r : Nat) : Int) = some ((ev (L.map c) (c (j + 1 + r))).val : Int)) := ⟨eval_tells 1001 L HU.out (by have := HL.out; omega) _ (by omega) (by omega)⟩
      have EN := Aside0.mk (own_next L r j)
      generalize ((ev (L.map c) (c (j + 1 + r))).val : Int) = y at *
      generalize ((j + 1 + r : Nat) : Int) = x at *
      clear hr0

      go_wp2_with (first | (go_at_call 47; (with_reducible refine (eval_c 1001 x y (ROW.out.below HB.out) CA.out EV.out).mono ?_); rintro e_ w_ ⟨rfl, hb⟩; have T1_ := Aside0.mk (Kd.R_below HO.out hb); clear HO; have HO := T1_; clear T1_; have T1_ := Aside0.mk (below_step HB.out hb); clear HB; have HB := T1_; clear T1_ hb) | ((with_reducible refine gate_builtin (b := .append) (xs := #[.tmp 40, .tmp 46]) rfl ?_); at_builtin; refine Kd.R_append k74 (w0 := w) w.heap.size rfl (.tmp 40) (.tmp 46) 59 74 (.agg #[(.int .u64 0), (.int .u64 0)]) 16 rfl Tryd.underlying59 info74 rfl (by decide) (by omega) _ (p74 (own L r j)) (⟨x, y⟩ : S74) [.int .u64 x, .int .u64 y] (fun _ => True) (fun _ => False) rfl rfl ?aP (fun _ hk => hk.elim) ?aF ?aO ?aB ?aS ?aL ?_; (case aP => exact k74_mkM _ _ _ _); (case aB => exact HB.out); (case aF => exact (fun _ _ => trivial)); (case aO => exact HO.out); (case aS => exact HB.out.size); (case aL => rw [p74_len, own_len]; have := HJ.out; omega); intro v_ w_ ho hb hg hat; rw [← EN.out] at ho; have HO2 := Aside0.mk ho; have B2 := Aside0.mk hb; clear ho hb hg hat HB HO))
      go_roundw
      case rel => exact ⟨j + 1, by go_num, by have := HJ.out; omega, HO2, B2⟩
      case measure => simp [intOf]; have := HJ.out; omega
    · obtain rfl : j = n + 2 := by omega
      obtain ⟨M, hM⟩ : ∃ M, M = n + 2 := ⟨_, rfl⟩
      obtain ⟨g, d, rfl, hd, hC⟩ := own_slice (m := M) HO.out (by rw [p74_len, own_len]; exact hM.symm) (by omega)
      obtain ⟨B, cutB, hB⟩ := cut_back _ M d _ wr hC hd (by omega)
      have cutA := cut_front (some ⟨g, 0, none⟩) M d n (by omega) hd
      have e2 : M - 2 = n := by omega
      rw [e2] at cutB hB
      have DB : Aside0 (n ≤ d - 2) := ⟨by omega⟩
      have DA : Aside0 (n ≤ d) := ⟨by omega⟩
      have DM := Aside0.mk hd
      have PS := Aside0.mk hC
      have PB : Aside0 (Ps n wr B (p74 ((own L r (n + 2)).drop 2))) := ⟨by rw [← p74_drop]; exact hB⟩
      have PA : Aside0 (Ps n wr (some ⟨g, 0, none⟩) (p74 ((own L r (n + 2)).take n))) := ⟨by
        have hC' : Kd.C k74 wr (some ⟨g, 0, none⟩) (p74 (own L r (n + 2))).length (p74 (own L r (n + 2))) := by have hC2 := hC; rw [hM] at hC2; rw [p74_len, own_len]; exact hC2
        have h := Kd.C_take (m := n) hC' (by rw [p74_len, own_len]; omega)
        rw [p74_take, p74_len, List.length_take, own_len, show min n (n + 2) = n by omega] at h
        exact h⟩
      have hl := HL.out
      have TA : Aside0 (poly_Through.f 1400 (p74 ((own L r (n + 2)).take n)) (t : Int) = some (((ev (L.map c) (c t)).val : Int), none)) := ⟨known_through 1400 L r (n + 2) HR.out (by omega) _ (List.take_sublist _ _) (by rw [List.length_take, own_len]; omega) t HT.out (by omega)⟩
      have TB : Aside0 (poly_Through.f 1400 (p74 ((own L r (n + 2)).drop 2)) (t : Int) = some (((ev (L.map c) (c t)).val : Int), none)) := ⟨known_through 1400 L r (n + 2) HR.out (by omega) _ (List.drop_sublist _ _) (by rw [List.length_drop, own_len]; omega) t HT.out (by omega)⟩
      have LA : Aside0 (poly_Line.f 1600 (p74 (own L r (n + 2))) (n : Int) = some (true, none)) := ⟨by have h := known_line 1600 L r HR.out (by omega) (by omega); rw [hl] at h; exact h⟩
      have LB : Aside0 (poly_Line.f 1600 (p74 (bent L r)) (n : Int) = some (false, none)) := ⟨by have h := bent_line 1600 L r HR.out (by omega) (by omega); rw [hl] at h; exact h⟩
      have EV : Aside0 (poly_Eval.f 1001 (nl L) (t : Int) = some ((ev (L.map c) (c t)).val : Int)) := ⟨eval_tells 1001 L HU.out (by omega) _ HT.out (by omega)⟩
      obtain ⟨qi, hqi⟩ : ∃ q : Int, (M : Int) - 1 = q := ⟨_, rfl⟩
      have hq0 : 0 ≤ qi := by omega
      have hq1 : qi < (M : Int) := by omega
      have Q1 : Aside0 (0 ≤ qi) := ⟨hq0⟩
      have Q2 : Aside0 (qi < (M : Int)) := ⟨hq1⟩
      have BS : Aside0 ((p74 (own L r (n + 2))).set qi.toNat (⟨((n + 1 + 1 + r : Nat) : Int), ((((ev (L.map c) (c (n + 1 + 1 + r))).val + 1) % PP : Nat) : Int)⟩ : S74) = p74 (bent L r)) := ⟨by have h := bent_set L r; rw [hl] at h; rw [show qi.toNat = n + 1 by omega]; exact h⟩
      have RD : Aside0 (rd_T74 (p74 (own L r (n + 2))) qi = (⟨((n + 1 + 1 + r : Nat) : Int), ((ev (L.map c) (c (n + 1 + 1 + r))).val : Int)⟩ : S74)) := ⟨by
        rw [show qi = ((n + 1 : Nat) : Int) by omega, rd_p74 _ (n + 1) (by rw [own_len]; omega), own_at]⟩
      have hvl := kval_lt (ev (L.map c) (c (n + 1 + 1 + r)))
      have hy0 : 0 ≤ ((ev (L.map c) (c (n + 1 + 1 + r))).val : Int) := by omega
      have W8 : IntKind.u64.wrap (((ev (L.map c) (c (n + 1 + 1 + r))).val : Int) + 1) = ((ev (L.map c) (c (n + 1 + 1 + r))).val : Int) + 1 := uw _ (by omega) (by omega)
      have W9 : Int.tmod (((ev (L.map c) (c (n + 1 + 1 + r))).val : Int) + 1) 2305843009213693951 = ((((ev (L.map c) (c (n + 1 + 1 + r))).val + 1) % PP : Nat) : Int) := tmod_P _
      have X2 := Aside0.mk hM
      generalize (((ev (L.map c) (c (n + 1 + 1 + r))).val + 1) % PP : Nat) = y2 at *
      generalize ((ev (L.map c) (c (n + 1 + 1 + r))).val : Int) = y at *
      generalize ((ev (L.map c) (c t)).val : Int) = z at *
      generalize ((n + 1 + 1 + r : Nat) : Int) = x at *
      clear hC hB hl hd hM hvl hy0 hlt hj
      have hq0' := eq_true hq0
      have hq1' := eq_true hq1
      clear hq0 hq1

      go_wp2_with (first | (go_at_call 42; (with_reducible refine (through_c 1400 t z none .nilIface rfl PA.out DA.out TA.out).mono ?_); rintro e_ w_ ⟨rfl, hb⟩; have T1_ := Aside0.mk (PS.out.below hb); clear PS; have PS := T1_; clear T1_; have T1_ := Aside0.mk (PA.out.below hb); clear PA; have PA := T1_; clear T1_; have T1_ := Aside0.mk (PB.out.below hb); clear PB; have PB := T1_; clear T1_; have T1_ := Aside0.mk (Kd.R_below HO.out hb); clear HO; have HO := T1_; clear T1_; have T1_ := Aside0.mk (below_step HB.out hb); clear HB; have HB := T1_; clear T1_ hb; clear TA) | (go_at_call 42; (with_reducible refine (through_c 1400 t z none .nilIface rfl PB.out DB.out TB.out).mono ?_); rintro e_ w_ ⟨rfl, hb⟩; have T1_ := Aside0.mk (PS.out.below hb); clear PS; have PS := T1_; clear T1_; have T1_ := Aside0.mk (PA.out.below hb); clear PA; have PA := T1_; clear T1_; have T1_ := Aside0.mk (PB.out.below hb); clear PB; have PB := T1_; clear T1_; have T1_ := Aside0.mk (Kd.R_below HO.out hb); clear HO; have HO := T1_; clear T1_; have T1_ := Aside0.mk (below_step HB.out hb); clear HB; have HB := T1_; clear T1_ hb) | (go_at_call 44; (with_reducible refine (line_c 1600 n true none .nilIface rfl PS.out DM.out LA.out).mono ?_); rintro e_ w_ ⟨rfl, hb⟩; have T1_ := Aside0.mk (PS.out.below hb); clear PS; have PS := T1_; clear T1_; have T1_ := Aside0.mk (PA.out.below hb); clear PA; have PA := T1_; clear T1_; have T1_ := Aside0.mk (PB.out.below hb); clear PB; have PB := T1_; clear T1_; have T1_ := Aside0.mk (Kd.R_below HO.out hb); clear HO; have HO := T1_; clear T1_; have T1_ := Aside0.mk (below_step HB.out hb); clear HB; have HB := T1_; clear T1_ hb; obtain ⟨hx0, hx1⟩ := share_cells PS.out Q1.out Q2.out RD.out) | ((with_reducible refine gate_ (.store 22 (.tmp 85) (.tmp 83)) rfl ?_); refine Kd.R_store k74 (w0 := w) w.heap.size rfl rfl 22 (.tmp 85) (.tmp 83) rfl 74 qi 1 (p74 (own L r (n + 2))) (⟨x, (y2 : Int)⟩ : S74) (.int .u64 (y2 : Int)) [.int .u64 (y2 : Int)] [.int .u64 x, .int .u64 y] (fun _ => True) (fun _ => False) (o' := qi.toNat * 2 + 1) ?ha rfl ?hx rfl ?ht ?h1 HO.out Q1.out Q2.out rfl ?hcc (Nat.le_refl 2) ?hM (fun _ h => h.elim) HB.out ?_; (case ha => first | rfl | (go_simp; done) | (go_simp; rfl)); (case hx => first | rfl | (go_simp; done)); (case ht => kernel_rfl); (case h1 => intro q hq; simp at hq; subst hq; rfl); (case hM => exact k74_mkM _ _ _ _); (case hcc => intro j u hj; match j, hj with | 0, hj => (simp at hj; subst hj; exact hx0) | 1, hj => (simp at hj; subst hj; exact hx1) | j + 2, hj => simp at hj); intro w_ ho hb hg; rw [BS.out] at ho; clear hx0 hx1; obtain ⟨g2, d2, e2, hd2, hC2⟩ := own_slice (m := M) ho (by have h := congrArg List.length BS.out; rw [List.length_set, p74_len, own_len] at h; rw [← h]; exact X2.out.symm) (by have := X2.out; omega); obtain ⟨rfl, rfl⟩ : g = g2 ∧ d = d2 := (by injection e2 with e3 _ e4; injection e3 with e3; injection e3 with e3; exact ⟨e3, e4⟩); have PT := Aside0.mk hC2; clear HO HB; have HB := Aside0.mk hb; clear ho hg hb e2 hd2 hC2 PA PB PS) | (go_at_call 44; (with_reducible refine (line_c 1600 n false none .nilIface rfl PT.out DM.out LB.out).mono ?_); rintro e_ w_ ⟨rfl, hb⟩; have T1_ := Aside0.mk (below_step HB.out hb); clear HB; have HB := T1_; clear T1_ hb PT) | (go_at_call 47; (with_reducible refine (eval_c 1001 t z (ROW.out.below HB.out) CA.out EV.out).mono ?_); rintro e_ w_ ⟨rfl, hb⟩; have T1_ := Aside0.mk (below_step HB.out hb); clear HB; have HB := T1_; clear T1_ hb) | (go_at_call 40; (with_reducible refine (sure_is _ (As.LaidG.below HG.out HB.out)).mono ?_); rintro e_ w_ ⟨rfl, hb⟩; have T1_ := Aside0.mk (below_step HB.out hb); clear HB; have HB := T1_; clear T1_ hb))
      go_ret
      exact ⟨rfl, HB.out⟩

theorem bounds_u64 {x : Int} (h : (Lit.int .u64 x).wf = true) : 0 ≤ x ∧ x < 18446744073709551616 := by
  have h1 : IntKind.u64.min = 0 := rfl
  have h2 : IntKind.u64.max = 18446744073709551615 := rfl
  simp [Lit.wf, h1, h2] at h
  omega
theorem bounds_u8 {x : Int} (h : (Lit.int .u8 x).wf = true) : 0 ≤ x ∧ x < 256 := by
  have h1 : IntKind.u8.min = 0 := rfl
  have h2 : IntKind.u8.max = 255 := rfl
  simp [Lit.wf, h1, h2] at h
  omega
theorem nl_of (l : List Int) (h : ∀ x ∈ l, (Lit.int .u64 x).wf = true) : ∃ L, l = nl L ∧ LtU L := by
  refine ⟨l.map Int.toNat, ?_, ?_⟩
  · unfold nl
    rw [List.map_map]
    refine (List.map_id l).symm.trans (List.map_congr_left fun x hx => ?_)
    have := bounds_u64 (h x hx)
    show x = ((x.toNat : Nat) : Int)
    omega
  · intro x hx
    obtain ⟨y, hy, rfl⟩ := List.mem_map.1 hx
    have := bounds_u64 (h y hy)
    omega
theorem known_wf (_ : True) (A : Option Addr) (ca : Nat) (l : List Int) (t r : Int) (w : World) (hG : As.LaidG w)
    (C0 : (Kd.int .u64).C w A l.length l) (D0 : l.length ≤ ca) (_ : ca ≤ maxLen) (w0 : ∀ x ∈ l, (Lit.int .u64 x).wf = true) (w1 : (Lit.int .u64 t).wf = true) (w2 : (Lit.int .u8 r).wf = true) :
    Calls Tryd.prog 11 #[.slice A l.length ca, .int .u64 t, .int .u8 r] w fun x w' => x = .returned (.bool true) ∧ Below w.heap.size w w' := by
  obtain ⟨L, rfl, hU⟩ := nl_of l w0
  have ht := bounds_u64 w1
  have hr := bounds_u8 w2
  obtain ⟨t, rfl⟩ := Int.eq_ofNat_of_zero_le ht.1
  obtain ⟨r, rfl⟩ := Int.eq_ofNat_of_zero_le hr.1
  by_cases hn : (nl L).length = 0 ∨ 10 < (nl L).length
  · exact known_sure_a A _ ca t r w hG hn
  · exact known_go A (nl L).length ca L t r (nl_len L).symm (by omega) (by omega) (by omega) (by omega) hU D0 w hG C0
end Go.Proofs.YtbfgppecpkfcnaaDoor.PPoly
