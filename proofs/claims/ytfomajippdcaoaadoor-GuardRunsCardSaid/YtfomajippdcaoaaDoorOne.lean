/-
  The law GuardOne, walked.
-/
import Derived.Test.YtfomajippdcaoaaDoorGuardAny
namespace Go.Proofs.YtfomajippdcaoaaDoor.Gu
open Go.RowKit Go.Proofs.YtfomajippdcaoaaDoorW.PrintWords Go.Proofs.YtfomajippdcaoaaDoorW.PrintLast Go.Proofs.YtfomajippdcaoaaDoorW.PrintMore Go.Proofs.YtfomajippdcaoaaDoor.PSet Go.Proofs.YtfomajippdcaoaaDoor.Sc

theorem rows_at {w : World} {A : Option Addr} {n : Nat} {xs : List (List Int)} (h : Kd.C (Kd.slice 3 (Kd.int .i64)) w A n xs) (i : Nat) (h1 : i < n) :
    ∃ ad A0 n0 c0, A = some ad ∧ w.cell? (ad.add i) = some (.slice A0 n0 c0) ∧ Rn w A0 n0 c0 (xs.getD i []) := by
  obtain ⟨ad, c, e, _, hK, hc0⟩ := Kd.C_get h ([] : List Int) i (by omega) (by omega)
  have hc : ∀ j u, c[j]? = some u → w.cell? (ad.add (((i : Int).toNat) * 1 + j)) = some u := hc0
  obtain ⟨A0, c0, rfl, l0, g0⟩ := hK
  refine ⟨ad, A0, _, c0, e, ?_, ⟨g0, rfl, l0⟩⟩
  have hq := hc 0 _ rfl
  rwa [Nat.mul_one, Nat.add_zero, Int.toNat_natCast] at hq

set_option maxRecDepth 100000 in
set_option maxHeartbeats 1000000 in
theorem one_sure (A B : Option Addr) (n c m d : Nat) (k : Int) (w : World) (hG : As.LaidG w) (hn : n = 0 ∨ 100 < n) :
    Calls Tryd.prog 4 #[.slice A n c, .int .u8 k, .slice B m d] w (Sc.Told (.bool true) w) := by
  have HG := Aside0.mk hG
  rcases hn with rfl | hn
  · go_enter Tryd.func4, Tryd.ntmps4
    go_wp2_with (go_at_call 15; (with_reducible refine (sure26 _ HG.out).mono ?_); rintro e ws ⟨rfl, hb⟩)
    go_ret
    exact ⟨rfl, hb⟩
  · have q1 : decide (100 < (n : Int)) = true := decide_eq_true (by omega)
    have q2 : decide (100 < n) = true := decide_eq_true (by omega)
    clear hn
    go_enter Tryd.func4, Tryd.ntmps4
    go_wp2_with (go_at_call 15; (with_reducible refine (sure26 _ HG.out).mono ?_); rintro e ws ⟨rfl, hb⟩)
    go_ret
    exact ⟨rfl, hb⟩

set_option maxRecDepth 100000 in
set_option maxHeartbeats 1000000 in
theorem one_new (A B : Option Addr) (n c m d : Nat) (who : List Int) (k : Int) (w : World) (hG : As.LaidG w) (h0 : 0 < n) (hn : ¬ 100 < n) (hk0 : 0 ≤ k) (hk1 : k < 256) (hw : Rn w A n c who) (hi : inc (-1) who = false) :
    Calls Tryd.prog 4 #[.slice A n c, .int .u8 k, .slice B m d] w (Sc.Told (.bool true) w) := by
  have HG := Aside0.mk hG
  have RW := Aside0.mk hw
  have LN : Aside0 (n ≤ 1000) := ⟨by omega⟩
  have HI := Aside0.mk hi
  have z1 : decide ((n : Int) = 0) = false := decide_eq_false (by omega)
  have z2 : decide (n = 0) = false := decide_eq_false (by omega)
  have z3 : ((n : Int) == 0) = false := by simp; omega
  have q1 : decide (100 < (n : Int)) = false := decide_eq_false (by omega)
  have q2 : decide (100 < n) = false := decide_eq_false (by omega)
  clear hw hi hn
  go_enter Tryd.func4, Tryd.ntmps4
  go_wp2_with (first | (go_at_call 16; (with_reducible refine (new_no _ RW.out LN.out HI.out).mono ?_); rintro e wa ⟨rfl, hb⟩; have HB := Aside0.mk hb; clear hb) | (go_at_call 15; (with_reducible refine (sure26 _ (As.LaidG.below HG.out HB.out)).mono ?_); rintro e ws ⟨rfl, hb⟩))
  go_ret
  exact ⟨rfl, below_step HB.out hb⟩

theorem OutOf.cellAt {w : World} {o : Nat} {f : Nat → Int} {x : Int} (h : OutOf w o f) (j : Nat) (hj : j < 64) (he : f j = x) : w.cell? ⟨o, j, none⟩ = some (.int .i64 x) ∧ w.frozen? ⟨o, j, none⟩ = false := by
  rw [← he]
  exact h j hj
theorem outV_vals (who came : List Int) (is : Bool) (id : Int) : outV who came is id = 0 ∨ outV who came is id = 1 ∨ outV who came is id = 2 := by
  unfold outV
  repeat' split
  all_goals simp
theorem err_new (who : List Int) (need : Int) (came : List Int) (is : Bool) (l : List Int) :
    (errV (askC who need came is l) = .nilIface ∧ nxC (askC who need came is l) l came = l ∧ nxI (askC who need came is l) is = true) ∨ ∃ c, errV (askC who need came is l) = .iface 75 (.int .i64 c) := by
  by_cases h : askC who need came is l = 0
  · left
    rw [h]
    exact ⟨rfl, rfl, rfl⟩
  · right
    exact ⟨askC who need came is l, by rw [errV, if_neg h]⟩
theorem old_new (who : List Int) (need : Int) (came : List Int) (is : Bool) (l : List Int) (p : Nat) :
    outV who came is (p : Int) = 0 ∨ outV who came is (p : Int) = outV who (nxC (askC who need came is l) l came) (nxI (askC who need came is l) is) (p : Int) := by
  by_cases h : askC who need came is l = 0
  · rw [h]
    cases is with
    | false => left; rw [outV, if_pos rfl]
    | true =>
      right
      have hl : l = came := by
        refine Classical.byContradiction fun hne => ?_
        unfold askC at h
        split at h
        · omega
        · split at h
          · split at h
            · omega
            · rw [if_pos ⟨rfl, hne⟩] at h
              omega
          · omega
      rw [nxC, nxI, if_pos rfl, if_pos rfl, hl]
  · right
    rw [nxC, nxI, if_neg h, if_neg h]

theorem out_has (who l : List Int) (p : Nat) : outV who l true (p : Int) = 0 ∨ outV who l true (p : Int) = 1 ∧ decide (0 ≤ (p : Int) ∧ (p : Int) < 64 ∧ (p : Int) ∈ l) = true ∨ outV who l true (p : Int) = 2 ∧ decide (0 ≤ (p : Int) ∧ (p : Int) < 64 ∧ (p : Int) ∈ l) = false := by
  unfold outV
  rw [if_neg (by decide)]
  split
  · exact Or.inl rfl
  · cases decide (0 ≤ (p : Int) ∧ (p : Int) < 64 ∧ (p : Int) ∈ l) with
    | true => exact Or.inr (Or.inl ⟨by rw [if_pos rfl], rfl⟩)
    | false => exact Or.inr (Or.inr ⟨by rw [if_neg (by decide)], rfl⟩)
set_option maxRecDepth 100000 in
set_option maxHeartbeats 1000000 in
theorem one_go (A B : Option Addr) (n c m d : Nat) (who : List Int) (asks : List (List Int)) (k : Int) (w : World) (hG : As.LaidG w) (h0 : 0 < n) (hn : ¬ 100 < n) (hk0 : 0 ≤ k) (hk1 : k < 256) (hw : Rn w A n c who) (hr : Kd.C (Kd.slice 3 (Kd.int .i64)) w B m asks) (hi : inc (-1) who = true) :
    Calls Tryd.prog 4 #[.slice A n c, .int .u8 k, .slice B m d] w (Sc.Told (.bool true) w) := by
  have HG := Aside0.mk hG
  have RW := Aside0.mk hw
  have RR := Aside0.mk hr
  have LN : Aside0 (n ≤ 1000) := ⟨by omega⟩
  have HI := Aside0.mk hi
  have z1 : decide ((n : Int) = 0) = false := decide_eq_false (by omega)
  have z2 : decide (n = 0) = false := decide_eq_false (by omega)
  have z3 : ((n : Int) == 0) = false := by simp; omega
  have q1 : decide (100 < (n : Int)) = false := decide_eq_false (by omega)
  have q2 : decide (100 < n) = false := decide_eq_false (by omega)
  have K0 : Aside0 (0 ≤ k % n) := ⟨Int.emod_nonneg _ (by omega)⟩
  have K1 : Aside0 (k % n < n) := ⟨Int.emod_lt_of_pos _ (by omega)⟩
  have hwr : wrap64 (1 + k % (n : Int)) = 1 + k % (n : Int) := by have := K0.out; have := K1.out; unfold wrap64; omega
  clear hw hi hn hr
  go_enter Tryd.func4, Tryd.ntmps4
  go_wp2_with (go_at_call 16; (with_reducible refine (new_ok _ RW.out LN.out HI.out (by have := K0.out; omega) (by have := K1.out; omega)).mono ?_); rintro e wa ⟨g, rfl, hs, hb, hl⟩; have ST := Aside0.mk hs; have HL := Aside0.mk hl; have HB := Aside0.mk hb; clear hb hs hl)
  rw [show (#[.int .i64 0, .int .i64 0, .int .i64 0, .int .i64 0, .int .i64 0, .int .i64 0, .int .i64 0, .int .i64 0, .int .i64 0, .int .i64 0, .int .i64 0, .int .i64 0, .int .i64 0, .int .i64 0, .int .i64 0, .int .i64 0, .int .i64 0, .int .i64 0, .int .i64 0, .int .i64 0, .int .i64 0, .int .i64 0, .int .i64 0, .int .i64 0, .int .i64 0, .int .i64 0, .int .i64 0, .int .i64 0, .int .i64 0, .int .i64 0, .int .i64 0, .int .i64 0, .int .i64 0, .int .i64 0, .int .i64 0, .int .i64 0, .int .i64 0, .int .i64 0, .int .i64 0, .int .i64 0, .int .i64 0, .int .i64 0, .int .i64 0, .int .i64 0, .int .i64 0, .int .i64 0, .int .i64 0, .int .i64 0, .int .i64 0, .int .i64 0, .int .i64 0, .int .i64 0, .int .i64 0, .int .i64 0, .int .i64 0, .int .i64 0, .int .i64 0, .int .i64 0, .int .i64 0, .int .i64 0, .int .i64 0, .int .i64 0, .int .i64 0, .int .i64 0] : Array Value) = Array.replicate 64 (Value.int .i64 0) from rfl]
  have O0 : OutOf (wa.alloc (.cells (Array.replicate 64 (Value.int .i64 0)) 36)) wa.heap.size (fun _ => 0) := out_blk (blk_new _ _)
  have OG : Aside0 (wa.heap.size ≠ g) := ⟨by
    obtain ⟨A1, B1, n1, c1, m1, d1, hs⟩ := ST.out
    have := blk_lt hs.blk
    omega⟩
  have OL : Aside0 (w.heap.size ≤ wa.heap.size) := ⟨HB.out.size⟩
  have SO : StO (wa.alloc (.cells (Array.replicate 64 (Value.int .i64 0)) 36)) wa.heap.size g who (1 + k % n) [] false := ST.out.beside.below (below_alloc (Below.refl _ _) _)
  have B0 : Below w.heap.size w (wa.alloc (.cells (Array.replicate 64 (Value.int .i64 0)) 36)) := below_alloc HB.out _
  generalize wa.alloc (.cells (Array.replicate 64 (Value.int .i64 0)) 36) = wb at *
  generalize wa.heap.size = o at *
  clear ST RW HI
  have SO0 := Aside0.mk SO
  have OO0 := Aside0.mk O0
  have BB0 := Aside0.mk B0
  clear SO O0 B0
  go_loopw [10] (fun i wr => ∃ (q : Nat) (came : List Int) (is : Bool), i = .int .i64 q ∧ q ≤ 40 ∧ StO wr o g who (1 + k % n) came is ∧ OutOf wr o (fun j => outV who came is (j : Int)) ∧ Below w.heap.size w wr) (fun i _ => 40 - (intOf i).toNat)
  case atStart => exact ⟨0, [], false, rfl, by omega, SO0.out, OO0.out.congr (fun j _ => by rw [outV, if_pos rfl]), BB0.out⟩
  case round =>
    clear SO0 OO0 BB0
    obtain ⟨q, came, is, rfl, hq, hs, ho, hb⟩ := hrel
    have SO := Aside0.mk hs
    have OO := Aside0.mk ho
    have BB := Aside0.mk hb
    clear hs ho hb
    by_cases hlt : (q : Int) < (m : Int)
    · by_cases h40 : (q : Int) < 40
      · obtain ⟨ad, A0, n0, c0, eB, hcell, hR⟩ := rows_at RR.out q (by omega)
        subst eB
        have CL : Aside0 (∀ W, Below w.heap.size w W → W.cell? (ad.add q) = some (.slice A0 n0 c0) ∧ Rn W A0 n0 c0 (asks.getD q [])) := ⟨fun W hW => ⟨(hW.cell (World.block_lt_of_cell? w _ hcell)).trans hcell, hR.below hW⟩⟩
        clear hcell hR
        generalize asks.getD q [] = l at *
        obtain ⟨e0, _⟩ := CL.out _ BB.out
        by_cases h100 : (100 : Int) < (n0 : Int)
        · go_wp2_with fail
          go_roundw
          case rel => exact ⟨q + 1, came, is, by go_num, by omega, SO.out, OO.out, BB.out⟩
          case measure => simp [intOf]; omega
        · have LN0 : Aside0 (n0 ≤ 1000) := ⟨by omega⟩
          have HS : Aside0 (∀ p : Nat, outV who came is (p : Int) = 0 ∨ outV who came is (p : Int) = outV who (nxC (askC who (1 + k % n) came is l) l came) (nxI (askC who (1 + k % n) came is l) is) (p : Int)) := ⟨old_new _ _ _ _ _⟩
          have HF := Aside0.mk (err_new who (1 + k % n) came is l)
          go_wp2_with (go_at_call 17; (with_reducible refine (ask_any SO.out OO.out.lt (CL.out _ BB.out).2 LN0.out).mono ?_); rintro e w1 ⟨rfl, hs1, hg1⟩; have SO1 := Aside0.mk hs1; have OO1 := Aside0.mk (OO.out.grown hg1 OG.out); have BB1 := Aside0.mk (grant_below BB.out hg1 HL.out); clear hs1 hg1 SO OO)
          generalize errV (askC who (1 + k % n) came is l) = ev at *
          generalize nxC (askC who (1 + k % n) came is l) l came = came1 at *
          generalize nxI (askC who (1 + k % n) came is l) is = is1 at *
          clear e0
          go_loopw [12] (fun v wr => ∃ p : Nat, v = .int .i64 p ∧ p ≤ 64 ∧ StO wr o g who (1 + k % n) came1 is1 ∧ OutOf wr o (fun j => if j < p then outV who came1 is1 (j : Int) else outV who came is (j : Int)) ∧ Below w.heap.size w wr) (fun v _ => 64 - (intOf v).toNat)
          case atStart => exact ⟨0, rfl, by omega, SO1.out, OO1.out.congr (fun j _ => by rw [if_neg (by omega)]), BB1.out⟩
          case round =>
            clear SO1 OO1 BB1 BB
            obtain ⟨p, rfl, hp, hs, ho, hb⟩ := hrel
            have SO := Aside0.mk hs
            have OO := Aside0.mk ho
            have BB := Aside0.mk hb
            clear hs ho hb
            by_cases hp64 : (p : Int) < 64
            · obtain ⟨f0, f1⟩ := OO.out.cellAt (x := outV who came is (p : Int)) p (by omega) (if_neg (Nat.lt_irrefl p))
              have PF := Aside0.mk f0
              have FF := Aside0.mk f1
              clear f0 f1
              obtain ⟨s, hsv⟩ : ∃ s, outV who came1 is1 (p : Int) = s := ⟨_, rfl⟩
              have hv := outV_vals who came1 is1 p
              have hso := HS.out p
              rw [hsv] at hv hso
              generalize outV who came is (p : Int) = oo at *
              have SV := Aside0.mk hsv
              obtain ⟨b, hbv⟩ : ∃ b, decide (0 ≤ (p : Int) ∧ (p : Int) < 64 ∧ (p : Int) ∈ l) = b := ⟨_, rfl⟩
              have hev : ev = .nilIface ∧ (s = 0 ∨ s = 1 ∧ b = true ∨ s = 2 ∧ b = false) ∨ ∃ c, ev = .iface 75 (.int .i64 c) := by
                rcases HF.out with ⟨h1, h2, h3⟩ | h1
                · refine Or.inl ⟨h1, ?_⟩
                  subst h2 h3
                  rw [← hsv, ← hbv]
                  exact out_has who came1 p
                · exact Or.inr h1
              have HBV := Aside0.mk hbv
              clear hsv hbv
              have NEXT : ∀ wz, Below wr.heap.size wr wz → StO (wz.setCell ⟨o, p, none⟩ (.int .i64 s)) o g who (1 + k % n) came1 is1 ∧ OutOf (wz.setCell ⟨o, p, none⟩ (.int .i64 s)) o (fun j => if j < p + 1 then outV who came1 is1 (j : Int) else outV who came is (j : Int)) ∧ Below w.heap.size w (wz.setCell ⟨o, p, none⟩ (.int .i64 s)) := fun wz hz => by
                refine ⟨(SO.out.below hz).set OG.out _ _, ((OO.out.below hz).set p (by omega) s).congr (fun j _ => ?_), (below_step BB.out hz).setCell (p := ⟨o, p, none⟩) OL.out _⟩
                by_cases hj : j = p
                · subst hj
                  rw [if_pos rfl, if_pos (by omega)]
                  exact SV.out.symm
                · rw [if_neg hj]
                  by_cases hj2 : j < p
                  · rw [if_pos hj2, if_pos (by omega)]
                  · rw [if_neg hj2, if_neg (by omega)]
              have NX := Aside0.mk NEXT
              have CELL : Aside0 (∀ wz, Below wr.heap.size wr wz → wz.cell? ⟨o, p, none⟩ = some (.int .i64 oo) ∧ wz.frozen? ⟨o, p, none⟩ = false ∧ wz.cell? (ad.add q) = some (.slice A0 n0 c0)) := ⟨fun wz hz => ⟨(hz.cell (World.block_lt_of_cell? wr _ PF.out)).trans PF.out, (hz.frozen (World.block_lt_of_cell? wr _ PF.out)).trans FF.out, (CL.out _ (below_step BB.out hz)).1⟩⟩
              clear NEXT
              have one : ∀ wz, Below wr.heap.size wr wz → True := fun _ _ => trivial
              clear one
              rcases hev with ⟨rfl, hs3⟩ | ⟨c9, rfl⟩
              · rcases hs3 with rfl | ⟨rfl, rfl⟩ | ⟨rfl, rfl⟩
                · obtain rfl : oo = 0 := by omega
                  go_wp2_with (first | (go_at_call 18; (with_reducible refine (out_is _ _ SO.out.st SV.out).mono ?_); rintro e w3 ⟨rfl, hb⟩; have T3 := Aside0.mk hb; clear hb; obtain ⟨f0, f1, f2⟩ := CELL.out _ T3.out))
                  go_roundw
                  case rel => exact ⟨p + 1, by go_num, by omega, NX.out _ T3.out⟩
                  case measure => simp [intOf]; omega
                · rcases hso with rfl | rfl
                  · go_wp2_with (first | (go_at_call 18; (with_reducible refine (out_is _ _ SO.out.st SV.out).mono ?_); rintro e w3 ⟨rfl, hb⟩; have T3 := Aside0.mk hb; clear hb; obtain ⟨f0, f1, f2⟩ := CELL.out _ T3.out) | (go_at_call 19; (with_reducible refine (hasr_is _ _ ((CL.out _ (below_step BB.out T3.out)).2) LN0.out HBV.out).mono ?_); rintro e w4 ⟨rfl, hb⟩; have T4 := Aside0.mk (below_step T3.out hb); clear hb f0 f1 f2; obtain ⟨f0, f1, f2⟩ := CELL.out _ T4.out))
                    go_roundw
                    case rel => exact ⟨p + 1, by go_num, by omega, NX.out _ T4.out⟩
                    case measure => simp [intOf]; omega
                  · go_wp2_with (first | (go_at_call 18; (with_reducible refine (out_is _ _ SO.out.st SV.out).mono ?_); rintro e w3 ⟨rfl, hb⟩; have T3 := Aside0.mk hb; clear hb; obtain ⟨f0, f1, f2⟩ := CELL.out _ T3.out) | (go_at_call 19; (with_reducible refine (hasr_is _ _ ((CL.out _ (below_step BB.out T3.out)).2) LN0.out HBV.out).mono ?_); rintro e w4 ⟨rfl, hb⟩; have T4 := Aside0.mk (below_step T3.out hb); clear hb f0 f1 f2; obtain ⟨f0, f1, f2⟩ := CELL.out _ T4.out))
                    go_roundw
                    case rel => exact ⟨p + 1, by go_num, by omega, NX.out _ T4.out⟩
                    case measure => simp [intOf]; omega
                · rcases hso with rfl | rfl
                  · go_wp2_with (first | (go_at_call 18; (with_reducible refine (out_is _ _ SO.out.st SV.out).mono ?_); rintro e w3 ⟨rfl, hb⟩; have T3 := Aside0.mk hb; clear hb; obtain ⟨f0, f1, f2⟩ := CELL.out _ T3.out) | (go_at_call 19; (with_reducible refine (hasr_is _ _ ((CL.out _ (below_step BB.out T3.out)).2) LN0.out HBV.out).mono ?_); rintro e w4 ⟨rfl, hb⟩; have T4 := Aside0.mk (below_step T3.out hb); clear hb f0 f1 f2; obtain ⟨f0, f1, f2⟩ := CELL.out _ T4.out))
                    go_roundw
                    case rel => exact ⟨p + 1, by go_num, by omega, NX.out _ T4.out⟩
                    case measure => simp [intOf]; omega
                  · go_wp2_with (first | (go_at_call 18; (with_reducible refine (out_is _ _ SO.out.st SV.out).mono ?_); rintro e w3 ⟨rfl, hb⟩; have T3 := Aside0.mk hb; clear hb; obtain ⟨f0, f1, f2⟩ := CELL.out _ T3.out) | (go_at_call 19; (with_reducible refine (hasr_is _ _ ((CL.out _ (below_step BB.out T3.out)).2) LN0.out HBV.out).mono ?_); rintro e w4 ⟨rfl, hb⟩; have T4 := Aside0.mk (below_step T3.out hb); clear hb f0 f1 f2; obtain ⟨f0, f1, f2⟩ := CELL.out _ T4.out))
                    go_roundw
                    case rel => exact ⟨p + 1, by go_num, by omega, NX.out _ T4.out⟩
                    case measure => simp [intOf]; omega
              · rcases hv with rfl | rfl | rfl
                · obtain rfl : oo = 0 := by omega
                  go_wp2_with (first | (go_at_call 18; (with_reducible refine (out_is _ _ SO.out.st SV.out).mono ?_); rintro e w3 ⟨rfl, hb⟩; have T3 := Aside0.mk hb; clear hb; obtain ⟨f0, f1, f2⟩ := CELL.out _ T3.out))
                  go_roundw
                  case rel => exact ⟨p + 1, by go_num, by omega, NX.out _ T3.out⟩
                  case measure => simp [intOf]; omega
                · rcases hso with rfl | rfl
                  · go_wp2_with (first | (go_at_call 18; (with_reducible refine (out_is _ _ SO.out.st SV.out).mono ?_); rintro e w3 ⟨rfl, hb⟩; have T3 := Aside0.mk hb; clear hb; obtain ⟨f0, f1, f2⟩ := CELL.out _ T3.out))
                    go_roundw
                    case rel => exact ⟨p + 1, by go_num, by omega, NX.out _ T3.out⟩
                    case measure => simp [intOf]; omega
                  · go_wp2_with (first | (go_at_call 18; (with_reducible refine (out_is _ _ SO.out.st SV.out).mono ?_); rintro e w3 ⟨rfl, hb⟩; have T3 := Aside0.mk hb; clear hb; obtain ⟨f0, f1, f2⟩ := CELL.out _ T3.out))
                    go_roundw
                    case rel => exact ⟨p + 1, by go_num, by omega, NX.out _ T3.out⟩
                    case measure => simp [intOf]; omega
                · rcases hso with rfl | rfl
                  · go_wp2_with (first | (go_at_call 18; (with_reducible refine (out_is _ _ SO.out.st SV.out).mono ?_); rintro e w3 ⟨rfl, hb⟩; have T3 := Aside0.mk hb; clear hb; obtain ⟨f0, f1, f2⟩ := CELL.out _ T3.out))
                    go_roundw
                    case rel => exact ⟨p + 1, by go_num, by omega, NX.out _ T3.out⟩
                    case measure => simp [intOf]; omega
                  · go_wp2_with (first | (go_at_call 18; (with_reducible refine (out_is _ _ SO.out.st SV.out).mono ?_); rintro e w3 ⟨rfl, hb⟩; have T3 := Aside0.mk hb; clear hb; obtain ⟨f0, f1, f2⟩ := CELL.out _ T3.out))
                    go_roundw
                    case rel => exact ⟨p + 1, by go_num, by omega, NX.out _ T3.out⟩
                    case measure => simp [intOf]; omega
            · obtain rfl : p = 64 := by omega
              go_wp2_with fail
              go_roundw
              case rel => exact ⟨q + 1, came1, is1, by go_num, by omega, SO.out, OO.out.congr (fun j hj => by rw [if_pos hj]), BB.out⟩
              case measure => simp [intOf]; omega
      · go_wp2_with (go_at_call 15; (with_reducible refine (sure26 _ (As.LaidG.below HG.out BB.out)).mono ?_); rintro e ws ⟨rfl, hb⟩)
        go_ret
        exact ⟨rfl, below_step BB.out hb⟩
    · go_wp2_with (go_at_call 15; (with_reducible refine (sure26 _ (As.LaidG.below HG.out BB.out)).mono ?_); rintro e ws ⟨rfl, hb⟩)
      go_ret
      exact ⟨rfl, below_step BB.out hb⟩
end Go.Proofs.YtfomajippdcaoaaDoor.Gu
