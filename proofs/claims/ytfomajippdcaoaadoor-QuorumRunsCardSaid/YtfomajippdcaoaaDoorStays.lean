/-
  The law QuorumStays, walked.
-/
import Derived.Test.YtfomajippdcaoaaDoorQPlain
namespace Go.Proofs.YtfomajippdcaoaaDoor.Qu
open Go.RowKit Go.Proofs.YtfomajippdcaoaaDoorW.PrintWords Go.Proofs.YtfomajippdcaoaaDoorW.PrintLast Go.Proofs.YtfomajippdcaoaaDoorW.PrintMore Go.Proofs.YtfomajippdcaoaaDoor.PSet Go.Proofs.YtfomajippdcaoaaDoor.Sc

/-- a slice of pairs of numbers in memory -/
def Prs (w : World) (a : Option Addr) (n : Nat) (f g : Nat → Int) : Prop := 0 < n → ∃ b off, a = some ⟨b, off, none⟩ ∧ ∀ i, i < n → w.cell? ⟨b, off + i * 2, none⟩ = some (.int .i64 (f i)) ∧ w.cell? ⟨b, off + i * 2 + 1, none⟩ = some (.int .i64 (g i))
def whoL (n : Nat) : List Int := (List.range n).map fun (i : Nat) => 3 * (i : Int)
theorem whoL_succ (n : Nat) : whoL (n + 1) = whoL n ++ [3 * (n : Int)] := by
  unfold whoL
  rw [List.range_succ, List.map_append]
  rfl
theorem whoL_len (n : Nat) : (whoL n).length = n := by simp [whoL]
theorem whoL_inc : ∀ n, n < 13 → inc (-1) (whoL n) = true := by decide

theorem box_cell {w : World} {b : Nat} {y z : Int} (h : w.heap[b]? = some (.cells #[.int .u8 y, .int .u8 z] 72 (0, 0))) : w.cell? ⟨b, 0, none⟩ = some (.int .u8 y) ∧ w.cell? ⟨b, 1, none⟩ = some (.int .u8 z) := by
  simp [World.cell?, h]

section
variable {w : World} {av : Nat → Prop} {t : Nat} {who inn gone : List Int} {need left term tk : Int}
theorem came_ok (id : Int) (hs : Tl w av t who inn gone need left) (ho : Ok who inn gone need left term tk) :
    Calls Tryd.prog 28 #[.pointer (some ⟨t, 0, none⟩), .int .i64 id] w fun e w' => ∃ v inn', e = .returned v ∧ Tl w' av t who inn' gone need left ∧ w.grownBy w' (some t) ∧ Ok who inn' gone need left term tk ∧ Stay who inn gone need left inn' gone left := by
  refine (came_is id hs).mono ?_
  rintro e w' ⟨rfl, h1, h2⟩
  obtain ⟨o1, o2⟩ := ho.came id
  exact ⟨_, _, rfl, h1, h2, o1, o2⟩
theorem gone_ok (id : Int) (hs : Tl w av t who inn gone need left) (ho : Ok who inn gone need left term tk) :
    Calls Tryd.prog 29 #[.pointer (some ⟨t, 0, none⟩), .int .i64 id] w fun e w' => ∃ v gone', e = .returned v ∧ Tl w' av t who inn gone' need left ∧ w.grownBy w' (some t) ∧ Ok who inn gone' need left term tk ∧ Stay who inn gone need left inn gone' left := by
  refine (gone_is id hs).mono ?_
  rintro e w' ⟨rfl, h1, h2⟩
  obtain ⟨o1, o2⟩ := ho.went id
  exact ⟨_, _, rfl, h1, h2, o1, o2⟩
theorem tick_ok (ht : term ≤ 1000) (hs : Tl w av t who inn gone need left) (ho : Ok who inn gone need left term tk) :
    Calls Tryd.prog 26 #[.pointer (some ⟨t, 0, none⟩)] w fun e w' => ∃ left', e = .returned (.tuple #[]) ∧ Tl w' av t who inn gone need left' ∧ w.grownBy w' (some t) ∧ Ok who inn gone need left' term (tk + 1) ∧ Stay who inn gone need left inn gone left' := by
  refine (tick_is hs ho.l0 (by have := ho.l1; omega)).mono ?_
  rintro e w' ⟨rfl, h1, h2⟩
  obtain ⟨o1, o2⟩ := ho.tick
  exact ⟨_, rfl, h1, h2, o1, o2⟩
set_option maxRecDepth 100000 in
theorem in_f (hs : Tl w av t who inn gone need left) (hi : SetL inn) : Calls Tryd.prog 31 #[.pointer (some ⟨t, 0, none⟩)] w (MadeF inn w) := by
  obtain ⟨A, B, C, n, c, m, d, p, q, hs⟩ := hs
  have S0 := Aside0.mk hs
  obtain ⟨c0, c1, c2, c3, c4, f1, f2, f4⟩ := cells_of S0.out.blk
  clear hs
  go_enter Tryd.func31, Tryd.ntmps31
  go_wp2_with (go_at_call 50; (with_reducible refine (either_f S0.out.inn S0.out.lm (Rn.nil _) (by decide)).mono ?_); rintro e w1 ⟨A1, n1, c1, rfl, hr, hb, hf⟩)
  go_ret
  exact ⟨_, _, _, rfl, by rw [hi.either] at hr; exact hr, hb, hf⟩
theorem fresh_ne {D : Option Addr} {k : Nat} (hf : 0 < k → ∀ ad, D = some ad → w.heap.size ≤ ad.block) (hs : Tl w av t who inn gone need left) : 0 < k → ∀ ad, D = some ad → ad.block ≠ t := by
  obtain ⟨A, B, C, n, c, m, d, p, q, hs⟩ := hs
  have h1 := hs.al t hs.tv
  intro hp ad e
  have := hf hp ad e
  omega
/-- j further ticks went by -/
structure Fin (who inn gone : List Int) (need left term j : Int) : Prop where
  l0 : 0 ≤ left
  l1 : left ≤ 1000
  lk : st who inn gone need left = 0 → left + j ≤ term
theorem tick_fin {j : Int} (hs : Tl w av t who inn gone need left) (ho : Fin who inn gone need left term j) :
    Calls Tryd.prog 26 #[.pointer (some ⟨t, 0, none⟩)] w fun e w' => ∃ left', e = .returned (.tuple #[]) ∧ Tl w' av t who inn gone need left' ∧ w.grownBy w' (some t) ∧ Fin who inn gone need left' term (j + 1) := by
  refine (tick_is hs ho.l0 ho.l1).mono ?_
  rintro e w' ⟨rfl, h1, h2⟩
  refine ⟨_, rfl, h1, h2, ?_⟩
  have a := ho.l0
  have b := ho.l1
  by_cases hc : st who inn gone need left = 0
  · rw [if_pos hc]
    have := st_left hc
    have c := ho.lk hc
    exact ⟨by omega, by omega, fun _ => by omega⟩
  · rw [if_neg hc]
    exact ⟨a, b, fun h => absurd h hc⟩
theorem Fin.done (ho : Fin who inn gone need left term term) : st who inn gone need left = 1 ∨ st who inn gone need left = 2 := by
  rcases stq_vals who.length inn.length gone.length need left with h | h | h
  · exfalso
    have h0 : st who inn gone need left = 0 := h
    have := st_left h0
    have := ho.lk h0
    have := ho.l0
    omega
  · exact Or.inl h
  · exact Or.inr h
end

set_option maxRecDepth 100000 in
set_option maxHeartbeats 2000000 in
theorem stays_walk (X Y Z : Int) (B : Option Addr) (m d : Nat) (f g : Nat → Int) (hX : 0 ≤ X) (hX2 : X ≤ 255) (hY : 0 ≤ Y) (hY2 : Y ≤ 255) (hZ : 0 ≤ Z) (hZ2 : Z ≤ 255) (w : World) (hG : As.LaidG w) (hp : Prs w B m f g) :
    Calls Tryd.prog 8 #[.int .u8 X, .agg #[.int .u8 Y, .int .u8 Z], .slice B m d] w (Sc.Told (.bool true) w) := by
  have HG := Aside0.mk hG
  have HP := Aside0.mk hp
  clear hG hp
  have n0 : 0 ≤ X % 12 := by omega
  have n2 : X % 12 ≤ 11 := by omega
  go_enter Tryd.func8, Tryd.ntmps8
  go_wp2_with fail
  obtain ⟨N, hN⟩ : ∃ N : Nat, 1 + X % 12 = (N : Int) := ⟨(1 + X % 12).toNat, by omega⟩
  rw [hN]
  have N1 : 1 ≤ N := by omega
  have N2 : N ≤ 12 := by omega
  clear hN n0 n2
  have BW0 : Aside0 (Below w.heap.size w (w.alloc (.cells #[.int .u8 Y, .int .u8 Z] 72))) := ⟨below_alloc (Below.refl _ _) _⟩
  have GB : Aside0 ((w.alloc (.cells #[.int .u8 Y, .int .u8 Z] 72)).heap[w.heap.size]? = some (.cells #[.int .u8 Y, .int .u8 Z] 72 (0, 0))) := ⟨blk_new _ _⟩
  have HB0 : Aside0 (Below w.heap.size w (w.alloc (.cells #[.int .u8 Y, .int .u8 Z] 72))) := ⟨below_alloc (Below.refl _ _) _⟩
  generalize hwb : w.alloc (.cells #[.int .u8 Y, .int .u8 Z] 72) = wb at *
  have SZ : Aside0 (w.heap.size < wb.heap.size) := ⟨blk_lt GB.out⟩
  clear hwb
  go_loopw [8, 9] (fun v i wr => ∃ j : Nat, i = .int .i64 j ∧ j ≤ N ∧ Kd.R (Kd.int .i64) 3 wr wb.heap.size (fun _ => True) v (whoL j) ∧ Below wb.heap.size wb wr) (fun _ i _ => 12 - (intOf i).toNat)
  case atStart => exact ⟨0, rfl, by omega, Kd.R_nil _ _ _ _ _, Below.refl _ _⟩
  case round =>
    clear HB0
    obtain ⟨j, rfl, hj, hr, hb⟩ := hrel
    have RO := Aside0.mk hr
    have HB := Aside0.mk hb
    clear hr hb
    by_cases hlt : (j : Int) < (N : Int)
    · have hw3 : wrap64 (3 * (j : Int)) = 3 * (j : Int) := wrap64_in' _ (by omega) (by omega)
      go_wp2_with ((with_reducible refine gate_builtin (b := .append) (xs := #[.tmp 30, .tmp 33]) rfl ?_); go_loud (at_builtin; refine Kd.R_append (Kd.int .i64) (w0 := wb) wb.heap.size rfl (.tmp 30) (.tmp 33) 31 3 (.int .i64 0) 8 rfl Tryd.underlying31 PSet.info3 rfl (by decide) (by omega) u8 (whoL j) (3 * (j : Int)) [.int .i64 (3 * (j : Int))] (fun _ => True) (fun _ => False) rfl rfl ?aP (fun _ hk => hk.elim) ?aF ?aO ?aB ?aS ?aL ?_; (case aP => exact rfl); (case aB => exact (by repeat (first | exact HB.out | apply below_alloc | apply below_drew1))); (case aF => exact (fun _ _ => trivial)); (case aO => exact (by (with_reducible repeat (first | apply Kd.R_alloc | apply Kd.R_drewN | apply Kd.R_drew)); exact RO.out)); (case aS => exact (below_size (by repeat (first | exact HB.out | apply below_alloc | apply below_drew1)))); (case aL => rw [whoL_len]; omega); intro v9 w9 ho hb hg hat; rw [← whoL_succ] at ho; have HO9 := Aside0.mk ho; have HB9 := Aside0.mk hb; clear ho hb hg hat))
      go_roundw
      case rel => exact ⟨j + 1, by go_num, by omega, HO9.out, HB9.out⟩
      case measure => simp [intOf]; omega
    · obtain rfl : j = N := by omega
      obtain ⟨A1, c1, rfl, hR⟩ := Gu.Rn.of_Rn (n := j) RO.out (whoL_len j)
      have RW := Aside0.mk hR
      clear hR RO
      have HBW : Aside0 (Below w.heap.size w wr) := ⟨BW0.out.trans (HB.out.mono (Nat.le_of_lt SZ.out))⟩
      obtain ⟨ce0, ce1⟩ := box_cell (blk_below GB.out HB.out)
      have K0 : 0 ≤ Y % (j : Int) := Int.emod_nonneg _ (by omega)
      have K1 : Y % (j : Int) < j := Int.emod_lt_of_pos _ (by omega)
      have hwn : wrap64 (1 + Y % (j : Int)) = 1 + Y % (j : Int) := wrap64_in' _ (by omega) (by omega)
      have T0 : 0 ≤ Z % 9 := by omega
      have T1 : Z % 9 ≤ 8 := by omega
      have hwt : wrap64 (1 + Z % 9) = 1 + Z % 9 := wrap64_in' _ (by omega) (by omega)
      have z1 : decide ((j : Int) = 0) = false := decide_eq_false (by omega)
      have z2 : decide (j = 0) = false := decide_eq_false (by omega)
      have z3 : ((j : Int) == 0) = false := by simp; omega
      go_upto_region 7 with (fail)
      go_cut [10, 11] (fun v10 v11 wc => v10 = .int .i64 (1 + Y % (j : Int)) ∧ v11 = .int .i64 (1 + Z % 9) ∧ Rn wc A1 j c1 (whoL j) ∧ Below w.heap.size w wc)
      case first =>
        go_quiet (fail)
        go_wp2_with fail
        go_meet
        case rel => exact ⟨rfl, rfl, RW.out.below (by repeat (first | exact Below.refl _ _ | apply pw_below_drewN)), by repeat (first | exact HBW.out | apply pw_below_drewN)⟩
      case rest =>
        obtain ⟨rfl, rfl, hr, hb⟩ := hcut
        clear RW HB HBW ce0 ce1 GB SZ BW0 hwn hwt z1 z2 z3
        have RW := Aside0.mk hr
        have HB := Aside0.mk hb
        clear hr hb
        have WL : Aside0 ((whoL j).length = j) := ⟨whoL_len j⟩
        have WI : Aside0 (inc (-1) (whoL j) = true) := ⟨whoL_inc j (by omega)⟩
        generalize whoL j = who at *
        obtain ⟨need, hneed⟩ : ∃ need, 1 + Y % (j : Int) = need := ⟨_, rfl⟩
        rw [hneed]
        obtain ⟨term, hterm⟩ : ∃ term, 1 + Z % 9 = term := ⟨_, rfl⟩
        rw [hterm]
        have nd1 : 1 ≤ need := by omega
        have nd2 : need ≤ j := by omega
        have tm1 : 1 ≤ term := by omega
        have tm2 : term ≤ 1000 := by omega
        have LT := Aside0.mk tm2
        have D1 := Aside0.mk nd1
        have D2 := Aside0.mk nd2
        have D3 := Aside0.mk tm1
        have LN : Aside0 (j ≤ 1000) := ⟨by omega⟩
        clear hneed hterm K0 K1 T0 T1
        go_wp2_with (go_at_call 34; (with_reducible refine (new_ok _ _ RW.out LN.out WI.out D1.out D2.out D3.out LT.out).mono ?_); rintro e wa ⟨t, rfl, hs, hb, hl⟩; have TL := Aside0.mk hs; have HL := Aside0.mk (Nat.le_trans HB.out.size hl); have T1_ := Aside0.mk (below_step HB.out hb); clear HB; have HB := T1_; clear T1_ hb hs hl RW)
        have OK0 : Aside0 (Ok who [] [] need term term 0) := ⟨⟨⟨SetL.of_inc WI.out, SetL.nil, SetL.nil, by simp, by simp, by simp⟩, by omega, by omega, by omega, fun _ => by omega⟩⟩
        go_loopw [14, 15] (fun v14 v15 wr => ∃ (q : Nat) (tk left : Int) (inn gone : List Int), v14 = .int .i64 tk ∧ v15 = .int .i64 q ∧ q ≤ 60 ∧ tk ≤ q ∧ Tl wr (fun k => k = t) t who inn gone need left ∧ Ok who inn gone need left term tk ∧ Below w.heap.size w wr) (fun _ v _ => 60 - (intOf v).toNat)
        case atStart => exact ⟨0, 0, term, [], [], rfl, rfl, by omega, by omega, TL.out, OK0.out, HB.out⟩
        case round =>
          clear TL OK0 HB
          obtain ⟨q, tk, left, inn, gone, rfl, rfl, hq, htq, hs, ho, hb⟩ := hrel
          have TL := Aside0.mk hs
          have OK := Aside0.mk ho
          have HB := Aside0.mk hb
          have tk0 := ho.k0
          clear hs ho hb
          by_cases hqm : (q : Int) < (m : Int)
          · by_cases h60 : (q : Int) < 60
            · obtain ⟨b, off, rfl, hcell⟩ := HP.out (by omega)
              obtain ⟨p0, p1⟩ := hcell q (by omega)
              have CL : Aside0 (∀ W, Below w.heap.size w W → W.cell? ⟨b, off + q * 2, none⟩ = some (.int .i64 (f q)) ∧ W.cell? ⟨b, off + q * 2 + 1, none⟩ = some (.int .i64 (g q))) := ⟨fun W hW => ⟨(hW.cell (World.block_lt_of_cell? w _ p0)).trans p0, (hW.cell (World.block_lt_of_cell? w _ p1)).trans p1⟩⟩
              clear hcell p0 p1
              generalize f q = K at *
              generalize g q = I at *
              have hv0 := stq_vals who.length inn.length gone.length need left
              obtain ⟨s0, hs0⟩ : ∃ v, st who inn gone need left = v := ⟨_, rfl⟩
              rw [show stq who.length inn.length gone.length need left = s0 from hs0] at hv0
              have ST0 := Aside0.mk hs0
              clear hs0
              have hnn : ((j : Int) != (j : Int)) = false := by simp
              by_cases hk0 : K = 0
              · subst hk0
                go_upto_region 24 with (first | (go_at_call 30; (with_reducible refine (state_is _ TL.out ST0.out).mono ?_); rintro e wa ⟨rfl, hb⟩; have T1_ := Aside0.mk (TL.out.below hb); clear TL; have TL := T1_; clear T1_; have T1_ := Aside0.mk (below_step HB.out hb); clear HB; have HB := T1_; clear T1_; obtain ⟨c0, c1⟩ := CL.out _ HB.out; clear hb) | (go_at_call 31; (with_reducible refine (in_f TL.out OK.out.iv.i).mono ?_); rintro e wa ⟨A17, n17, c17, rfl, hr, hb, hf⟩; have N17 := Aside0.mk (fresh_ne hf TL.out); have T1_ := Aside0.mk (TL.out.below hb); clear TL; have TL := T1_; clear T1_; have T1_ := Aside0.mk (below_step HB.out hb); clear HB; have HB := T1_; clear T1_; have R17 := Aside0.mk hr; clear c0 c1; obtain ⟨c0, c1⟩ := CL.out _ HB.out; clear hr hb hf) | (go_at_call 28; (with_reducible refine (came_ok _ TL.out OK.out).mono ?_); rintro e wa ⟨v9, inn1, rfl, hs, hg, hok, hst⟩; clear TL; have TL := Aside0.mk hs; have T1_ := Aside0.mk (Gu.grant_below HB.out hg HL.out); clear HB; have HB := T1_; clear T1_; have T1_ := Aside0.mk (R17.out.grown hg N17.out); clear R17 N17; have R17 := T1_; clear T1_; have OK1 := Aside0.mk hok; have SY := Aside0.mk hst; clear hs hg hok hst OK))
                have hv1 := stq_vals who.length inn1.length gone.length need left
                obtain ⟨s1, hs1⟩ : ∃ v, st who inn1 gone need left = v := ⟨_, rfl⟩
                rw [show stq who.length inn1.length gone.length need left = s1 from hs1] at hv1
                have ST1 := Aside0.mk hs1
                clear hs1
                obtain ⟨L, hL⟩ : ∃ L, sel (pick 2 who inn1) = L := ⟨_, rfl⟩
                have LE := Aside0.mk hL
                have hsum := OK1.out.iv.lacks
                rw [hL, WL.out] at hsum
                have LI : Aside0 (inn1.length ≤ 1000) := ⟨by have := OK1.out.iv.i.len; omega⟩
                have hs2 : wrap64 ((inn1.length : Int) + (L.length : Int)) = (j : Int) := by rw [wrap64_in' _ (by omega) (by omega)]; omega
                clear hL hsum
                rcases hv1 with rfl | rfl | rfl
                · have dd : decide (term ≤ tk) = false := decide_eq_false (by have := OK1.out.open ST1.out; omega)
                  rcases hv0 with rfl | rfl | rfl
                  · go_wp2_with (first | (go_at_call 30; (with_reducible refine (state_is _ TL.out ST1.out).mono ?_); rintro e wa ⟨rfl, hb⟩; have T1_ := Aside0.mk (TL.out.below hb); clear TL; have TL := T1_; clear T1_; have T1_ := Aside0.mk (below_step HB.out hb); clear HB; have HB := T1_; clear T1_; have T1_ := Aside0.mk (R17.out.below hb); clear R17; have R17 := T1_; clear T1_; (try (have T1_ := Aside0.mk (RI.out.below hb); clear RI; have RI := T1_; clear T1_)); clear hb) | (go_at_call 31; (with_reducible refine (in_is TL.out OK1.out.iv.i).mono ?_); rintro e wa ⟨AI, nI, cI, rfl, hr, hb⟩; obtain rfl : nI = inn1.length := hr.len.symm; have T1_ := Aside0.mk (TL.out.below hb); clear TL; have TL := T1_; clear T1_; have T1_ := Aside0.mk (below_step HB.out hb); clear HB; have HB := T1_; clear T1_; have T1_ := Aside0.mk (R17.out.below hb); clear R17; have R17 := T1_; clear T1_; (try clear RI); have RI := Aside0.mk hr; clear hr hb) | (go_at_call 32; (with_reducible refine (lacks_to TL.out LE.out).mono ?_); rintro e wa ⟨AK, nK, cK, rfl, hr, hb⟩; obtain rfl : nK = L.length := hr.len.symm; have T1_ := Aside0.mk (TL.out.below hb); clear TL; have TL := T1_; clear T1_; have T1_ := Aside0.mk (below_step HB.out hb); clear HB; have HB := T1_; clear T1_; have T1_ := Aside0.mk (R17.out.below hb); clear R17; have R17 := T1_; clear T1_; clear hr hb))
                    go_roundw
                    case rel => exact ⟨q + 1, tk, left, inn1, gone, rfl, by go_num, by omega, by omega, TL.out, OK1.out, HB.out⟩
                    case measure => simp [intOf]; omega
                  · exact absurd (by have h := SY.out (by rw [ST0.out]; decide); have h1 := ST1.out; rw [h.1, ST0.out] at h1; exact h1) (by decide : ¬ (1 : Int) = 0)
                  · exact absurd (by have h := SY.out (by rw [ST0.out]; decide); have h1 := ST1.out; rw [h.1, ST0.out] at h1; exact h1) (by decide : ¬ (2 : Int) = 0)
                · have dd : decide ((inn1.length : Int) < need) = false := decide_eq_false (by have := OK1.out.one ST1.out; omega)
                  rcases hv0 with rfl | rfl | rfl
                  · go_wp2_with (first | (go_at_call 30; (with_reducible refine (state_is _ TL.out ST1.out).mono ?_); rintro e wa ⟨rfl, hb⟩; have T1_ := Aside0.mk (TL.out.below hb); clear TL; have TL := T1_; clear T1_; have T1_ := Aside0.mk (below_step HB.out hb); clear HB; have HB := T1_; clear T1_; have T1_ := Aside0.mk (R17.out.below hb); clear R17; have R17 := T1_; clear T1_; (try (have T1_ := Aside0.mk (RI.out.below hb); clear RI; have RI := T1_; clear T1_)); clear hb) | (go_at_call 31; (with_reducible refine (in_is TL.out OK1.out.iv.i).mono ?_); rintro e wa ⟨AI, nI, cI, rfl, hr, hb⟩; obtain rfl : nI = inn1.length := hr.len.symm; have T1_ := Aside0.mk (TL.out.below hb); clear TL; have TL := T1_; clear T1_; have T1_ := Aside0.mk (below_step HB.out hb); clear HB; have HB := T1_; clear T1_; have T1_ := Aside0.mk (R17.out.below hb); clear R17; have R17 := T1_; clear T1_; (try clear RI); have RI := Aside0.mk hr; clear hr hb) | (go_at_call 32; (with_reducible refine (lacks_to TL.out LE.out).mono ?_); rintro e wa ⟨AK, nK, cK, rfl, hr, hb⟩; obtain rfl : nK = L.length := hr.len.symm; have T1_ := Aside0.mk (TL.out.below hb); clear TL; have TL := T1_; clear T1_; have T1_ := Aside0.mk (below_step HB.out hb); clear HB; have HB := T1_; clear T1_; have T1_ := Aside0.mk (R17.out.below hb); clear R17; have R17 := T1_; clear T1_; clear hr hb))
                    go_roundw
                    case rel => exact ⟨q + 1, tk, left, inn1, gone, rfl, by go_num, by omega, by omega, TL.out, OK1.out, HB.out⟩
                    case measure => simp [intOf]; omega
                  · have EI : Aside0 (decide (inn1 = inn) = true) := ⟨decide_eq_true ((SY.out (by rw [ST0.out]; decide)).1)⟩
                    go_wp2_with (first | (go_at_call 30; (with_reducible refine (state_is _ TL.out ST1.out).mono ?_); rintro e wa ⟨rfl, hb⟩; have T1_ := Aside0.mk (TL.out.below hb); clear TL; have TL := T1_; clear T1_; have T1_ := Aside0.mk (below_step HB.out hb); clear HB; have HB := T1_; clear T1_; have T1_ := Aside0.mk (R17.out.below hb); clear R17; have R17 := T1_; clear T1_; (try (have T1_ := Aside0.mk (RI.out.below hb); clear RI; have RI := T1_; clear T1_)); clear hb) | (go_at_call 39; (with_reducible refine (ints23_is true RI.out LI.out R17.out EI.out).mono ?_); rintro e wa ⟨rfl, hb⟩; have T1_ := Aside0.mk (TL.out.below hb); clear TL; have TL := T1_; clear T1_; have T1_ := Aside0.mk (below_step HB.out hb); clear HB; have HB := T1_; clear T1_; have T1_ := Aside0.mk (R17.out.below hb); clear R17; have R17 := T1_; clear T1_; clear hb) | (go_at_call 31; (with_reducible refine (in_is TL.out OK1.out.iv.i).mono ?_); rintro e wa ⟨AI, nI, cI, rfl, hr, hb⟩; obtain rfl : nI = inn1.length := hr.len.symm; have T1_ := Aside0.mk (TL.out.below hb); clear TL; have TL := T1_; clear T1_; have T1_ := Aside0.mk (below_step HB.out hb); clear HB; have HB := T1_; clear T1_; have T1_ := Aside0.mk (R17.out.below hb); clear R17; have R17 := T1_; clear T1_; (try clear RI); have RI := Aside0.mk hr; clear hr hb) | (go_at_call 32; (with_reducible refine (lacks_to TL.out LE.out).mono ?_); rintro e wa ⟨AK, nK, cK, rfl, hr, hb⟩; obtain rfl : nK = L.length := hr.len.symm; have T1_ := Aside0.mk (TL.out.below hb); clear TL; have TL := T1_; clear T1_; have T1_ := Aside0.mk (below_step HB.out hb); clear HB; have HB := T1_; clear T1_; have T1_ := Aside0.mk (R17.out.below hb); clear R17; have R17 := T1_; clear T1_; clear hr hb))
                    go_roundw
                    case rel => exact ⟨q + 1, tk, left, inn1, gone, rfl, by go_num, by omega, by omega, TL.out, OK1.out, HB.out⟩
                    case measure => simp [intOf]; omega
                  · exact absurd (by have h := SY.out (by rw [ST0.out]; decide); have h1 := ST1.out; rw [h.1, ST0.out] at h1; exact h1) (by decide : ¬ (2 : Int) = 1)
                · have dd : decide (need ≤ (inn1.length : Int)) = false := decide_eq_false (by have := OK1.out.two ST1.out; omega)
                  rcases hv0 with rfl | rfl | rfl
                  · go_wp2_with (first | (go_at_call 30; (with_reducible refine (state_is _ TL.out ST1.out).mono ?_); rintro e wa ⟨rfl, hb⟩; have T1_ := Aside0.mk (TL.out.below hb); clear TL; have TL := T1_; clear T1_; have T1_ := Aside0.mk (below_step HB.out hb); clear HB; have HB := T1_; clear T1_; have T1_ := Aside0.mk (R17.out.below hb); clear R17; have R17 := T1_; clear T1_; (try (have T1_ := Aside0.mk (RI.out.below hb); clear RI; have RI := T1_; clear T1_)); clear hb) | (go_at_call 31; (with_reducible refine (in_is TL.out OK1.out.iv.i).mono ?_); rintro e wa ⟨AI, nI, cI, rfl, hr, hb⟩; obtain rfl : nI = inn1.length := hr.len.symm; have T1_ := Aside0.mk (TL.out.below hb); clear TL; have TL := T1_; clear T1_; have T1_ := Aside0.mk (below_step HB.out hb); clear HB; have HB := T1_; clear T1_; have T1_ := Aside0.mk (R17.out.below hb); clear R17; have R17 := T1_; clear T1_; (try clear RI); have RI := Aside0.mk hr; clear hr hb) | (go_at_call 32; (with_reducible refine (lacks_to TL.out LE.out).mono ?_); rintro e wa ⟨AK, nK, cK, rfl, hr, hb⟩; obtain rfl : nK = L.length := hr.len.symm; have T1_ := Aside0.mk (TL.out.below hb); clear TL; have TL := T1_; clear T1_; have T1_ := Aside0.mk (below_step HB.out hb); clear HB; have HB := T1_; clear T1_; have T1_ := Aside0.mk (R17.out.below hb); clear R17; have R17 := T1_; clear T1_; clear hr hb))
                    go_roundw
                    case rel => exact ⟨q + 1, tk, left, inn1, gone, rfl, by go_num, by omega, by omega, TL.out, OK1.out, HB.out⟩
                    case measure => simp [intOf]; omega
                  · exact absurd (by have h := SY.out (by rw [ST0.out]; decide); have h1 := ST1.out; rw [h.1, ST0.out] at h1; exact h1) (by decide : ¬ (1 : Int) = 2)
                  · have EI : Aside0 (decide (inn1 = inn) = true) := ⟨decide_eq_true ((SY.out (by rw [ST0.out]; decide)).1)⟩
                    go_wp2_with (first | (go_at_call 30; (with_reducible refine (state_is _ TL.out ST1.out).mono ?_); rintro e wa ⟨rfl, hb⟩; have T1_ := Aside0.mk (TL.out.below hb); clear TL; have TL := T1_; clear T1_; have T1_ := Aside0.mk (below_step HB.out hb); clear HB; have HB := T1_; clear T1_; have T1_ := Aside0.mk (R17.out.below hb); clear R17; have R17 := T1_; clear T1_; (try (have T1_ := Aside0.mk (RI.out.below hb); clear RI; have RI := T1_; clear T1_)); clear hb) | (go_at_call 39; (with_reducible refine (ints23_is true RI.out LI.out R17.out EI.out).mono ?_); rintro e wa ⟨rfl, hb⟩; have T1_ := Aside0.mk (TL.out.below hb); clear TL; have TL := T1_; clear T1_; have T1_ := Aside0.mk (below_step HB.out hb); clear HB; have HB := T1_; clear T1_; have T1_ := Aside0.mk (R17.out.below hb); clear R17; have R17 := T1_; clear T1_; clear hb) | (go_at_call 31; (with_reducible refine (in_is TL.out OK1.out.iv.i).mono ?_); rintro e wa ⟨AI, nI, cI, rfl, hr, hb⟩; obtain rfl : nI = inn1.length := hr.len.symm; have T1_ := Aside0.mk (TL.out.below hb); clear TL; have TL := T1_; clear T1_; have T1_ := Aside0.mk (below_step HB.out hb); clear HB; have HB := T1_; clear T1_; have T1_ := Aside0.mk (R17.out.below hb); clear R17; have R17 := T1_; clear T1_; (try clear RI); have RI := Aside0.mk hr; clear hr hb) | (go_at_call 32; (with_reducible refine (lacks_to TL.out LE.out).mono ?_); rintro e wa ⟨AK, nK, cK, rfl, hr, hb⟩; obtain rfl : nK = L.length := hr.len.symm; have T1_ := Aside0.mk (TL.out.below hb); clear TL; have TL := T1_; clear T1_; have T1_ := Aside0.mk (below_step HB.out hb); clear HB; have HB := T1_; clear T1_; have T1_ := Aside0.mk (R17.out.below hb); clear R17; have R17 := T1_; clear T1_; clear hr hb))
                    go_roundw
                    case rel => exact ⟨q + 1, tk, left, inn1, gone, rfl, by go_num, by omega, by omega, TL.out, OK1.out, HB.out⟩
                    case measure => simp [intOf]; omega
              · have k0 : (K == 0) = false := by simpa using hk0
                have k1 : decide (K = 0) = false := decide_eq_false hk0
                by_cases hk1 : K = 1
                · subst hk1
                  go_upto_region 24 with (first | (go_at_call 30; (with_reducible refine (state_is _ TL.out ST0.out).mono ?_); rintro e wa ⟨rfl, hb⟩; have T1_ := Aside0.mk (TL.out.below hb); clear TL; have TL := T1_; clear T1_; have T1_ := Aside0.mk (below_step HB.out hb); clear HB; have HB := T1_; clear T1_; obtain ⟨c0, c1⟩ := CL.out _ HB.out; clear hb) | (go_at_call 31; (with_reducible refine (in_f TL.out OK.out.iv.i).mono ?_); rintro e wa ⟨A17, n17, c17, rfl, hr, hb, hf⟩; have N17 := Aside0.mk (fresh_ne hf TL.out); have T1_ := Aside0.mk (TL.out.below hb); clear TL; have TL := T1_; clear T1_; have T1_ := Aside0.mk (below_step HB.out hb); clear HB; have HB := T1_; clear T1_; have R17 := Aside0.mk hr; clear c0 c1; obtain ⟨c0, c1⟩ := CL.out _ HB.out; clear hr hb hf) | (go_at_call 29; (with_reducible refine (gone_ok _ TL.out OK.out).mono ?_); rintro e wa ⟨v9, gone1, rfl, hs, hg, hok, hst⟩; clear TL; have TL := Aside0.mk hs; have T1_ := Aside0.mk (Gu.grant_below HB.out hg HL.out); clear HB; have HB := T1_; clear T1_; have T1_ := Aside0.mk (R17.out.grown hg N17.out); clear R17 N17; have R17 := T1_; clear T1_; have OK1 := Aside0.mk hok; have SY := Aside0.mk hst; clear hs hg hok hst OK))
                  have hv1 := stq_vals who.length inn.length gone1.length need left
                  obtain ⟨s1, hs1⟩ : ∃ v, st who inn gone1 need left = v := ⟨_, rfl⟩
                  rw [show stq who.length inn.length gone1.length need left = s1 from hs1] at hv1
                  have ST1 := Aside0.mk hs1
                  clear hs1
                  obtain ⟨L, hL⟩ : ∃ L, sel (pick 2 who inn) = L := ⟨_, rfl⟩
                  have LE := Aside0.mk hL
                  have hsum := OK1.out.iv.lacks
                  rw [hL, WL.out] at hsum
                  have LI : Aside0 (inn.length ≤ 1000) := ⟨by have := OK1.out.iv.i.len; omega⟩
                  have hs2 : wrap64 ((inn.length : Int) + (L.length : Int)) = (j : Int) := by rw [wrap64_in' _ (by omega) (by omega)]; omega
                  clear hL hsum
                  rcases hv1 with rfl | rfl | rfl
                  · have dd : decide (term ≤ tk) = false := decide_eq_false (by have := OK1.out.open ST1.out; omega)
                    rcases hv0 with rfl | rfl | rfl
                    · go_wp2_with (first | (go_at_call 30; (with_reducible refine (state_is _ TL.out ST1.out).mono ?_); rintro e wa ⟨rfl, hb⟩; have T1_ := Aside0.mk (TL.out.below hb); clear TL; have TL := T1_; clear T1_; have T1_ := Aside0.mk (below_step HB.out hb); clear HB; have HB := T1_; clear T1_; have T1_ := Aside0.mk (R17.out.below hb); clear R17; have R17 := T1_; clear T1_; (try (have T1_ := Aside0.mk (RI.out.below hb); clear RI; have RI := T1_; clear T1_)); clear hb) | (go_at_call 31; (with_reducible refine (in_is TL.out OK1.out.iv.i).mono ?_); rintro e wa ⟨AI, nI, cI, rfl, hr, hb⟩; obtain rfl : nI = inn.length := hr.len.symm; have T1_ := Aside0.mk (TL.out.below hb); clear TL; have TL := T1_; clear T1_; have T1_ := Aside0.mk (below_step HB.out hb); clear HB; have HB := T1_; clear T1_; have T1_ := Aside0.mk (R17.out.below hb); clear R17; have R17 := T1_; clear T1_; (try clear RI); have RI := Aside0.mk hr; clear hr hb) | (go_at_call 32; (with_reducible refine (lacks_to TL.out LE.out).mono ?_); rintro e wa ⟨AK, nK, cK, rfl, hr, hb⟩; obtain rfl : nK = L.length := hr.len.symm; have T1_ := Aside0.mk (TL.out.below hb); clear TL; have TL := T1_; clear T1_; have T1_ := Aside0.mk (below_step HB.out hb); clear HB; have HB := T1_; clear T1_; have T1_ := Aside0.mk (R17.out.below hb); clear R17; have R17 := T1_; clear T1_; clear hr hb))
                      go_roundw
                      case rel => exact ⟨q + 1, tk, left, inn, gone1, rfl, by go_num, by omega, by omega, TL.out, OK1.out, HB.out⟩
                      case measure => simp [intOf]; omega
                    · exact absurd (by have h := SY.out (by rw [ST0.out]; decide); have h1 := ST1.out; rw [h.2.1, ST0.out] at h1; exact h1) (by decide : ¬ (1 : Int) = 0)
                    · exact absurd (by have h := SY.out (by rw [ST0.out]; decide); have h1 := ST1.out; rw [h.2.1, ST0.out] at h1; exact h1) (by decide : ¬ (2 : Int) = 0)
                  · have dd : decide ((inn.length : Int) < need) = false := decide_eq_false (by have := OK1.out.one ST1.out; omega)
                    rcases hv0 with rfl | rfl | rfl
                    · go_wp2_with (first | (go_at_call 30; (with_reducible refine (state_is _ TL.out ST1.out).mono ?_); rintro e wa ⟨rfl, hb⟩; have T1_ := Aside0.mk (TL.out.below hb); clear TL; have TL := T1_; clear T1_; have T1_ := Aside0.mk (below_step HB.out hb); clear HB; have HB := T1_; clear T1_; have T1_ := Aside0.mk (R17.out.below hb); clear R17; have R17 := T1_; clear T1_; (try (have T1_ := Aside0.mk (RI.out.below hb); clear RI; have RI := T1_; clear T1_)); clear hb) | (go_at_call 31; (with_reducible refine (in_is TL.out OK1.out.iv.i).mono ?_); rintro e wa ⟨AI, nI, cI, rfl, hr, hb⟩; obtain rfl : nI = inn.length := hr.len.symm; have T1_ := Aside0.mk (TL.out.below hb); clear TL; have TL := T1_; clear T1_; have T1_ := Aside0.mk (below_step HB.out hb); clear HB; have HB := T1_; clear T1_; have T1_ := Aside0.mk (R17.out.below hb); clear R17; have R17 := T1_; clear T1_; (try clear RI); have RI := Aside0.mk hr; clear hr hb) | (go_at_call 32; (with_reducible refine (lacks_to TL.out LE.out).mono ?_); rintro e wa ⟨AK, nK, cK, rfl, hr, hb⟩; obtain rfl : nK = L.length := hr.len.symm; have T1_ := Aside0.mk (TL.out.below hb); clear TL; have TL := T1_; clear T1_; have T1_ := Aside0.mk (below_step HB.out hb); clear HB; have HB := T1_; clear T1_; have T1_ := Aside0.mk (R17.out.below hb); clear R17; have R17 := T1_; clear T1_; clear hr hb))
                      go_roundw
                      case rel => exact ⟨q + 1, tk, left, inn, gone1, rfl, by go_num, by omega, by omega, TL.out, OK1.out, HB.out⟩
                      case measure => simp [intOf]; omega
                    · go_wp2_with (first | (go_at_call 30; (with_reducible refine (state_is _ TL.out ST1.out).mono ?_); rintro e wa ⟨rfl, hb⟩; have T1_ := Aside0.mk (TL.out.below hb); clear TL; have TL := T1_; clear T1_; have T1_ := Aside0.mk (below_step HB.out hb); clear HB; have HB := T1_; clear T1_; have T1_ := Aside0.mk (R17.out.below hb); clear R17; have R17 := T1_; clear T1_; (try (have T1_ := Aside0.mk (RI.out.below hb); clear RI; have RI := T1_; clear T1_)); clear hb) | (go_at_call 39; (with_reducible refine (ints23_is true RI.out LI.out R17.out (decide_eq_true rfl)).mono ?_); rintro e wa ⟨rfl, hb⟩; have T1_ := Aside0.mk (TL.out.below hb); clear TL; have TL := T1_; clear T1_; have T1_ := Aside0.mk (below_step HB.out hb); clear HB; have HB := T1_; clear T1_; have T1_ := Aside0.mk (R17.out.below hb); clear R17; have R17 := T1_; clear T1_; clear hb) | (go_at_call 31; (with_reducible refine (in_is TL.out OK1.out.iv.i).mono ?_); rintro e wa ⟨AI, nI, cI, rfl, hr, hb⟩; obtain rfl : nI = inn.length := hr.len.symm; have T1_ := Aside0.mk (TL.out.below hb); clear TL; have TL := T1_; clear T1_; have T1_ := Aside0.mk (below_step HB.out hb); clear HB; have HB := T1_; clear T1_; have T1_ := Aside0.mk (R17.out.below hb); clear R17; have R17 := T1_; clear T1_; (try clear RI); have RI := Aside0.mk hr; clear hr hb) | (go_at_call 32; (with_reducible refine (lacks_to TL.out LE.out).mono ?_); rintro e wa ⟨AK, nK, cK, rfl, hr, hb⟩; obtain rfl : nK = L.length := hr.len.symm; have T1_ := Aside0.mk (TL.out.below hb); clear TL; have TL := T1_; clear T1_; have T1_ := Aside0.mk (below_step HB.out hb); clear HB; have HB := T1_; clear T1_; have T1_ := Aside0.mk (R17.out.below hb); clear R17; have R17 := T1_; clear T1_; clear hr hb))
                      go_roundw
                      case rel => exact ⟨q + 1, tk, left, inn, gone1, rfl, by go_num, by omega, by omega, TL.out, OK1.out, HB.out⟩
                      case measure => simp [intOf]; omega
                    · exact absurd (by have h := SY.out (by rw [ST0.out]; decide); have h1 := ST1.out; rw [h.2.1, ST0.out] at h1; exact h1) (by decide : ¬ (2 : Int) = 1)
                  · have dd : decide (need ≤ (inn.length : Int)) = false := decide_eq_false (by have := OK1.out.two ST1.out; omega)
                    rcases hv0 with rfl | rfl | rfl
                    · go_wp2_with (first | (go_at_call 30; (with_reducible refine (state_is _ TL.out ST1.out).mono ?_); rintro e wa ⟨rfl, hb⟩; have T1_ := Aside0.mk (TL.out.below hb); clear TL; have TL := T1_; clear T1_; have T1_ := Aside0.mk (below_step HB.out hb); clear HB; have HB := T1_; clear T1_; have T1_ := Aside0.mk (R17.out.below hb); clear R17; have R17 := T1_; clear T1_; (try (have T1_ := Aside0.mk (RI.out.below hb); clear RI; have RI := T1_; clear T1_)); clear hb) | (go_at_call 31; (with_reducible refine (in_is TL.out OK1.out.iv.i).mono ?_); rintro e wa ⟨AI, nI, cI, rfl, hr, hb⟩; obtain rfl : nI = inn.length := hr.len.symm; have T1_ := Aside0.mk (TL.out.below hb); clear TL; have TL := T1_; clear T1_; have T1_ := Aside0.mk (below_step HB.out hb); clear HB; have HB := T1_; clear T1_; have T1_ := Aside0.mk (R17.out.below hb); clear R17; have R17 := T1_; clear T1_; (try clear RI); have RI := Aside0.mk hr; clear hr hb) | (go_at_call 32; (with_reducible refine (lacks_to TL.out LE.out).mono ?_); rintro e wa ⟨AK, nK, cK, rfl, hr, hb⟩; obtain rfl : nK = L.length := hr.len.symm; have T1_ := Aside0.mk (TL.out.below hb); clear TL; have TL := T1_; clear T1_; have T1_ := Aside0.mk (below_step HB.out hb); clear HB; have HB := T1_; clear T1_; have T1_ := Aside0.mk (R17.out.below hb); clear R17; have R17 := T1_; clear T1_; clear hr hb))
                      go_roundw
                      case rel => exact ⟨q + 1, tk, left, inn, gone1, rfl, by go_num, by omega, by omega, TL.out, OK1.out, HB.out⟩
                      case measure => simp [intOf]; omega
                    · exact absurd (by have h := SY.out (by rw [ST0.out]; decide); have h1 := ST1.out; rw [h.2.1, ST0.out] at h1; exact h1) (by decide : ¬ (1 : Int) = 2)
                    · go_wp2_with (first | (go_at_call 30; (with_reducible refine (state_is _ TL.out ST1.out).mono ?_); rintro e wa ⟨rfl, hb⟩; have T1_ := Aside0.mk (TL.out.below hb); clear TL; have TL := T1_; clear T1_; have T1_ := Aside0.mk (below_step HB.out hb); clear HB; have HB := T1_; clear T1_; have T1_ := Aside0.mk (R17.out.below hb); clear R17; have R17 := T1_; clear T1_; (try (have T1_ := Aside0.mk (RI.out.below hb); clear RI; have RI := T1_; clear T1_)); clear hb) | (go_at_call 39; (with_reducible refine (ints23_is true RI.out LI.out R17.out (decide_eq_true rfl)).mono ?_); rintro e wa ⟨rfl, hb⟩; have T1_ := Aside0.mk (TL.out.below hb); clear TL; have TL := T1_; clear T1_; have T1_ := Aside0.mk (below_step HB.out hb); clear HB; have HB := T1_; clear T1_; have T1_ := Aside0.mk (R17.out.below hb); clear R17; have R17 := T1_; clear T1_; clear hb) | (go_at_call 31; (with_reducible refine (in_is TL.out OK1.out.iv.i).mono ?_); rintro e wa ⟨AI, nI, cI, rfl, hr, hb⟩; obtain rfl : nI = inn.length := hr.len.symm; have T1_ := Aside0.mk (TL.out.below hb); clear TL; have TL := T1_; clear T1_; have T1_ := Aside0.mk (below_step HB.out hb); clear HB; have HB := T1_; clear T1_; have T1_ := Aside0.mk (R17.out.below hb); clear R17; have R17 := T1_; clear T1_; (try clear RI); have RI := Aside0.mk hr; clear hr hb) | (go_at_call 32; (with_reducible refine (lacks_to TL.out LE.out).mono ?_); rintro e wa ⟨AK, nK, cK, rfl, hr, hb⟩; obtain rfl : nK = L.length := hr.len.symm; have T1_ := Aside0.mk (TL.out.below hb); clear TL; have TL := T1_; clear T1_; have T1_ := Aside0.mk (below_step HB.out hb); clear HB; have HB := T1_; clear T1_; have T1_ := Aside0.mk (R17.out.below hb); clear R17; have R17 := T1_; clear T1_; clear hr hb))
                      go_roundw
                      case rel => exact ⟨q + 1, tk, left, inn, gone1, rfl, by go_num, by omega, by omega, TL.out, OK1.out, HB.out⟩
                      case measure => simp [intOf]; omega
                · have k2 : (K == 1) = false := by simpa using hk1
                  have k3 : decide (K = 1) = false := decide_eq_false hk1
                  clear hk0 hk1
                  go_upto_region 24 with (first | (go_at_call 30; (with_reducible refine (state_is _ TL.out ST0.out).mono ?_); rintro e wa ⟨rfl, hb⟩; have T1_ := Aside0.mk (TL.out.below hb); clear TL; have TL := T1_; clear T1_; have T1_ := Aside0.mk (below_step HB.out hb); clear HB; have HB := T1_; clear T1_; obtain ⟨c0, c1⟩ := CL.out _ HB.out; clear hb) | (go_at_call 31; (with_reducible refine (in_f TL.out OK.out.iv.i).mono ?_); rintro e wa ⟨A17, n17, c17, rfl, hr, hb, hf⟩; have N17 := Aside0.mk (fresh_ne hf TL.out); have T1_ := Aside0.mk (TL.out.below hb); clear TL; have TL := T1_; clear T1_; have T1_ := Aside0.mk (below_step HB.out hb); clear HB; have HB := T1_; clear T1_; have R17 := Aside0.mk hr; clear c0 c1; obtain ⟨c0, c1⟩ := CL.out _ HB.out; clear hr hb hf) | (go_at_call 26; (with_reducible refine (tick_ok LT.out TL.out OK.out).mono ?_); rintro e wa ⟨left1, rfl, hs, hg, hok, hst⟩; clear TL; have TL := Aside0.mk hs; have T1_ := Aside0.mk (Gu.grant_below HB.out hg HL.out); clear HB; have HB := T1_; clear T1_; have T1_ := Aside0.mk (R17.out.grown hg N17.out); clear R17 N17; have R17 := T1_; clear T1_; have OK1 := Aside0.mk hok; have SY := Aside0.mk hst; clear hs hg hok hst OK))
                  have hv1 := stq_vals who.length inn.length gone.length need left1
                  obtain ⟨s1, hs1⟩ : ∃ v, st who inn gone need left1 = v := ⟨_, rfl⟩
                  rw [show stq who.length inn.length gone.length need left1 = s1 from hs1] at hv1
                  have ST1 := Aside0.mk hs1
                  clear hs1
                  obtain ⟨L, hL⟩ : ∃ L, sel (pick 2 who inn) = L := ⟨_, rfl⟩
                  have LE := Aside0.mk hL
                  have hsum := OK1.out.iv.lacks
                  rw [hL, WL.out] at hsum
                  have LI : Aside0 (inn.length ≤ 1000) := ⟨by have := OK1.out.iv.i.len; omega⟩
                  have hs2 : wrap64 ((inn.length : Int) + (L.length : Int)) = (j : Int) := by rw [wrap64_in' _ (by omega) (by omega)]; omega
                  clear hL hsum
                  rcases hv1 with rfl | rfl | rfl
                  · have dd : decide (term ≤ tk + 1) = false := decide_eq_false (by have := OK1.out.open ST1.out; omega)
                    rcases hv0 with rfl | rfl | rfl
                    · go_wp2_with (first | (go_at_call 30; (with_reducible refine (state_is _ TL.out ST1.out).mono ?_); rintro e wa ⟨rfl, hb⟩; have T1_ := Aside0.mk (TL.out.below hb); clear TL; have TL := T1_; clear T1_; have T1_ := Aside0.mk (below_step HB.out hb); clear HB; have HB := T1_; clear T1_; have T1_ := Aside0.mk (R17.out.below hb); clear R17; have R17 := T1_; clear T1_; (try (have T1_ := Aside0.mk (RI.out.below hb); clear RI; have RI := T1_; clear T1_)); clear hb) | (go_at_call 31; (with_reducible refine (in_is TL.out OK1.out.iv.i).mono ?_); rintro e wa ⟨AI, nI, cI, rfl, hr, hb⟩; obtain rfl : nI = inn.length := hr.len.symm; have T1_ := Aside0.mk (TL.out.below hb); clear TL; have TL := T1_; clear T1_; have T1_ := Aside0.mk (below_step HB.out hb); clear HB; have HB := T1_; clear T1_; have T1_ := Aside0.mk (R17.out.below hb); clear R17; have R17 := T1_; clear T1_; (try clear RI); have RI := Aside0.mk hr; clear hr hb) | (go_at_call 32; (with_reducible refine (lacks_to TL.out LE.out).mono ?_); rintro e wa ⟨AK, nK, cK, rfl, hr, hb⟩; obtain rfl : nK = L.length := hr.len.symm; have T1_ := Aside0.mk (TL.out.below hb); clear TL; have TL := T1_; clear T1_; have T1_ := Aside0.mk (below_step HB.out hb); clear HB; have HB := T1_; clear T1_; have T1_ := Aside0.mk (R17.out.below hb); clear R17; have R17 := T1_; clear T1_; clear hr hb))
                      go_roundw
                      case rel => exact ⟨q + 1, tk + 1, left1, inn, gone, rfl, by go_num, by omega, by omega, TL.out, OK1.out, HB.out⟩
                      case measure => simp [intOf]; omega
                    · exact absurd (by have h := SY.out (by rw [ST0.out]; decide); have h1 := ST1.out; rw [h.2.2, ST0.out] at h1; exact h1) (by decide : ¬ (1 : Int) = 0)
                    · exact absurd (by have h := SY.out (by rw [ST0.out]; decide); have h1 := ST1.out; rw [h.2.2, ST0.out] at h1; exact h1) (by decide : ¬ (2 : Int) = 0)
                  · have dd : decide ((inn.length : Int) < need) = false := decide_eq_false (by have := OK1.out.one ST1.out; omega)
                    rcases hv0 with rfl | rfl | rfl
                    · go_wp2_with (first | (go_at_call 30; (with_reducible refine (state_is _ TL.out ST1.out).mono ?_); rintro e wa ⟨rfl, hb⟩; have T1_ := Aside0.mk (TL.out.below hb); clear TL; have TL := T1_; clear T1_; have T1_ := Aside0.mk (below_step HB.out hb); clear HB; have HB := T1_; clear T1_; have T1_ := Aside0.mk (R17.out.below hb); clear R17; have R17 := T1_; clear T1_; (try (have T1_ := Aside0.mk (RI.out.below hb); clear RI; have RI := T1_; clear T1_)); clear hb) | (go_at_call 31; (with_reducible refine (in_is TL.out OK1.out.iv.i).mono ?_); rintro e wa ⟨AI, nI, cI, rfl, hr, hb⟩; obtain rfl : nI = inn.length := hr.len.symm; have T1_ := Aside0.mk (TL.out.below hb); clear TL; have TL := T1_; clear T1_; have T1_ := Aside0.mk (below_step HB.out hb); clear HB; have HB := T1_; clear T1_; have T1_ := Aside0.mk (R17.out.below hb); clear R17; have R17 := T1_; clear T1_; (try clear RI); have RI := Aside0.mk hr; clear hr hb) | (go_at_call 32; (with_reducible refine (lacks_to TL.out LE.out).mono ?_); rintro e wa ⟨AK, nK, cK, rfl, hr, hb⟩; obtain rfl : nK = L.length := hr.len.symm; have T1_ := Aside0.mk (TL.out.below hb); clear TL; have TL := T1_; clear T1_; have T1_ := Aside0.mk (below_step HB.out hb); clear HB; have HB := T1_; clear T1_; have T1_ := Aside0.mk (R17.out.below hb); clear R17; have R17 := T1_; clear T1_; clear hr hb))
                      go_roundw
                      case rel => exact ⟨q + 1, tk + 1, left1, inn, gone, rfl, by go_num, by omega, by omega, TL.out, OK1.out, HB.out⟩
                      case measure => simp [intOf]; omega
                    · go_wp2_with (first | (go_at_call 30; (with_reducible refine (state_is _ TL.out ST1.out).mono ?_); rintro e wa ⟨rfl, hb⟩; have T1_ := Aside0.mk (TL.out.below hb); clear TL; have TL := T1_; clear T1_; have T1_ := Aside0.mk (below_step HB.out hb); clear HB; have HB := T1_; clear T1_; have T1_ := Aside0.mk (R17.out.below hb); clear R17; have R17 := T1_; clear T1_; (try (have T1_ := Aside0.mk (RI.out.below hb); clear RI; have RI := T1_; clear T1_)); clear hb) | (go_at_call 39; (with_reducible refine (ints23_is true RI.out LI.out R17.out (decide_eq_true rfl)).mono ?_); rintro e wa ⟨rfl, hb⟩; have T1_ := Aside0.mk (TL.out.below hb); clear TL; have TL := T1_; clear T1_; have T1_ := Aside0.mk (below_step HB.out hb); clear HB; have HB := T1_; clear T1_; have T1_ := Aside0.mk (R17.out.below hb); clear R17; have R17 := T1_; clear T1_; clear hb) | (go_at_call 31; (with_reducible refine (in_is TL.out OK1.out.iv.i).mono ?_); rintro e wa ⟨AI, nI, cI, rfl, hr, hb⟩; obtain rfl : nI = inn.length := hr.len.symm; have T1_ := Aside0.mk (TL.out.below hb); clear TL; have TL := T1_; clear T1_; have T1_ := Aside0.mk (below_step HB.out hb); clear HB; have HB := T1_; clear T1_; have T1_ := Aside0.mk (R17.out.below hb); clear R17; have R17 := T1_; clear T1_; (try clear RI); have RI := Aside0.mk hr; clear hr hb) | (go_at_call 32; (with_reducible refine (lacks_to TL.out LE.out).mono ?_); rintro e wa ⟨AK, nK, cK, rfl, hr, hb⟩; obtain rfl : nK = L.length := hr.len.symm; have T1_ := Aside0.mk (TL.out.below hb); clear TL; have TL := T1_; clear T1_; have T1_ := Aside0.mk (below_step HB.out hb); clear HB; have HB := T1_; clear T1_; have T1_ := Aside0.mk (R17.out.below hb); clear R17; have R17 := T1_; clear T1_; clear hr hb))
                      go_roundw
                      case rel => exact ⟨q + 1, tk + 1, left1, inn, gone, rfl, by go_num, by omega, by omega, TL.out, OK1.out, HB.out⟩
                      case measure => simp [intOf]; omega
                    · exact absurd (by have h := SY.out (by rw [ST0.out]; decide); have h1 := ST1.out; rw [h.2.2, ST0.out] at h1; exact h1) (by decide : ¬ (2 : Int) = 1)
                  · have dd : decide (need ≤ (inn.length : Int)) = false := decide_eq_false (by have := OK1.out.two ST1.out; omega)
                    rcases hv0 with rfl | rfl | rfl
                    · go_wp2_with (first | (go_at_call 30; (with_reducible refine (state_is _ TL.out ST1.out).mono ?_); rintro e wa ⟨rfl, hb⟩; have T1_ := Aside0.mk (TL.out.below hb); clear TL; have TL := T1_; clear T1_; have T1_ := Aside0.mk (below_step HB.out hb); clear HB; have HB := T1_; clear T1_; have T1_ := Aside0.mk (R17.out.below hb); clear R17; have R17 := T1_; clear T1_; (try (have T1_ := Aside0.mk (RI.out.below hb); clear RI; have RI := T1_; clear T1_)); clear hb) | (go_at_call 31; (with_reducible refine (in_is TL.out OK1.out.iv.i).mono ?_); rintro e wa ⟨AI, nI, cI, rfl, hr, hb⟩; obtain rfl : nI = inn.length := hr.len.symm; have T1_ := Aside0.mk (TL.out.below hb); clear TL; have TL := T1_; clear T1_; have T1_ := Aside0.mk (below_step HB.out hb); clear HB; have HB := T1_; clear T1_; have T1_ := Aside0.mk (R17.out.below hb); clear R17; have R17 := T1_; clear T1_; (try clear RI); have RI := Aside0.mk hr; clear hr hb) | (go_at_call 32; (with_reducible refine (lacks_to TL.out LE.out).mono ?_); rintro e wa ⟨AK, nK, cK, rfl, hr, hb⟩; obtain rfl : nK = L.length := hr.len.symm; have T1_ := Aside0.mk (TL.out.below hb); clear TL; have TL := T1_; clear T1_; have T1_ := Aside0.mk (below_step HB.out hb); clear HB; have HB := T1_; clear T1_; have T1_ := Aside0.mk (R17.out.below hb); clear R17; have R17 := T1_; clear T1_; clear hr hb))
                      go_roundw
                      case rel => exact ⟨q + 1, tk + 1, left1, inn, gone, rfl, by go_num, by omega, by omega, TL.out, OK1.out, HB.out⟩
                      case measure => simp [intOf]; omega
                    · exact absurd (by have h := SY.out (by rw [ST0.out]; decide); have h1 := ST1.out; rw [h.2.2, ST0.out] at h1; exact h1) (by decide : ¬ (1 : Int) = 2)
                    · go_wp2_with (first | (go_at_call 30; (with_reducible refine (state_is _ TL.out ST1.out).mono ?_); rintro e wa ⟨rfl, hb⟩; have T1_ := Aside0.mk (TL.out.below hb); clear TL; have TL := T1_; clear T1_; have T1_ := Aside0.mk (below_step HB.out hb); clear HB; have HB := T1_; clear T1_; have T1_ := Aside0.mk (R17.out.below hb); clear R17; have R17 := T1_; clear T1_; (try (have T1_ := Aside0.mk (RI.out.below hb); clear RI; have RI := T1_; clear T1_)); clear hb) | (go_at_call 39; (with_reducible refine (ints23_is true RI.out LI.out R17.out (decide_eq_true rfl)).mono ?_); rintro e wa ⟨rfl, hb⟩; have T1_ := Aside0.mk (TL.out.below hb); clear TL; have TL := T1_; clear T1_; have T1_ := Aside0.mk (below_step HB.out hb); clear HB; have HB := T1_; clear T1_; have T1_ := Aside0.mk (R17.out.below hb); clear R17; have R17 := T1_; clear T1_; clear hb) | (go_at_call 31; (with_reducible refine (in_is TL.out OK1.out.iv.i).mono ?_); rintro e wa ⟨AI, nI, cI, rfl, hr, hb⟩; obtain rfl : nI = inn.length := hr.len.symm; have T1_ := Aside0.mk (TL.out.below hb); clear TL; have TL := T1_; clear T1_; have T1_ := Aside0.mk (below_step HB.out hb); clear HB; have HB := T1_; clear T1_; have T1_ := Aside0.mk (R17.out.below hb); clear R17; have R17 := T1_; clear T1_; (try clear RI); have RI := Aside0.mk hr; clear hr hb) | (go_at_call 32; (with_reducible refine (lacks_to TL.out LE.out).mono ?_); rintro e wa ⟨AK, nK, cK, rfl, hr, hb⟩; obtain rfl : nK = L.length := hr.len.symm; have T1_ := Aside0.mk (TL.out.below hb); clear TL; have TL := T1_; clear T1_; have T1_ := Aside0.mk (below_step HB.out hb); clear HB; have HB := T1_; clear T1_; have T1_ := Aside0.mk (R17.out.below hb); clear R17; have R17 := T1_; clear T1_; clear hr hb))
                      go_roundw
                      case rel => exact ⟨q + 1, tk + 1, left1, inn, gone, rfl, by go_num, by omega, by omega, TL.out, OK1.out, HB.out⟩
                      case measure => simp [intOf]; omega
            · go_wp2_with fail
              go_loopw [20] (fun v wr => ∃ (j : Nat) (left9 : Int), v = .int .i64 j ∧ (j : Int) ≤ term ∧ Tl wr (fun k => k = t) t who inn gone need left9 ∧ Fin who inn gone need left9 term j ∧ Below w.heap.size w wr) (fun v _ => 1000 - (intOf v).toNat)
              case atStart => exact ⟨0, left, rfl, by omega, TL.out, ⟨OK.out.l0, by have := OK.out.l1; have := LT.out; omega, fun _ => by have := OK.out.l1; simpa using this⟩, HB.out⟩
              case round =>
                clear TL OK HB
                obtain ⟨j, left9, rfl, hj, hs, hf, hb⟩ := hrel
                have TL := Aside0.mk hs
                have FI := Aside0.mk hf
                have HB := Aside0.mk hb
                clear hs hf hb
                by_cases hjt : (j : Int) < term
                · have hj1 : (j : Int) < 1000 := by have := LT.out; omega
                  go_wp2_with (go_at_call 26; (with_reducible refine (tick_fin TL.out FI.out).mono ?_); rintro e wa ⟨left8, rfl, hs, hg, hf⟩; clear TL; have TL := Aside0.mk hs; have T1_ := Aside0.mk (Gu.grant_below HB.out hg HL.out); clear HB; have HB := T1_; clear T1_; clear FI; have FI := Aside0.mk hf; clear hs hg hf)
                  go_roundw
                  case rel => exact ⟨j + 1, left8, by go_num, by omega, TL.out, FI.out, HB.out⟩
                  case measure => simp [intOf]; omega
                · obtain rfl : (j : Int) = term := by omega
                  have hd := FI.out.done
                  obtain ⟨v, hv⟩ : ∃ v, st who inn gone need left9 = v := ⟨_, rfl⟩
                  rw [hv] at hd
                  have SV := Aside0.mk hv
                  clear hv
                  rcases hd with rfl | rfl
                  · go_wp2_with (first | (go_at_call 30; (with_reducible refine (state_is _ TL.out SV.out).mono ?_); rintro e wa ⟨rfl, hb⟩; have T1_ := Aside0.mk (below_step HB.out hb); clear HB; have HB := T1_; clear T1_ hb) | (go_at_call 33; (with_reducible refine (sure23 _ (As.LaidG.below HG.out HB.out)).mono ?_); rintro e ws ⟨rfl, hb⟩; have T1_ := Aside0.mk (below_step HB.out hb); clear HB; have HB := T1_; clear T1_ hb))
                    go_ret
                    exact ⟨rfl, HB.out⟩
                  · go_wp2_with (first | (go_at_call 30; (with_reducible refine (state_is _ TL.out SV.out).mono ?_); rintro e wa ⟨rfl, hb⟩; have T1_ := Aside0.mk (below_step HB.out hb); clear HB; have HB := T1_; clear T1_ hb) | (go_at_call 33; (with_reducible refine (sure23 _ (As.LaidG.below HG.out HB.out)).mono ?_); rintro e ws ⟨rfl, hb⟩; have T1_ := Aside0.mk (below_step HB.out hb); clear HB; have HB := T1_; clear T1_ hb))
                    go_ret
                    exact ⟨rfl, HB.out⟩
          · go_wp2_with fail
            go_loopw [20] (fun v wr => ∃ (j : Nat) (left9 : Int), v = .int .i64 j ∧ (j : Int) ≤ term ∧ Tl wr (fun k => k = t) t who inn gone need left9 ∧ Fin who inn gone need left9 term j ∧ Below w.heap.size w wr) (fun v _ => 1000 - (intOf v).toNat)
            case atStart => exact ⟨0, left, rfl, by omega, TL.out, ⟨OK.out.l0, by have := OK.out.l1; have := LT.out; omega, fun _ => by have := OK.out.l1; simpa using this⟩, HB.out⟩
            case round =>
              clear TL OK HB
              obtain ⟨j, left9, rfl, hj, hs, hf, hb⟩ := hrel
              have TL := Aside0.mk hs
              have FI := Aside0.mk hf
              have HB := Aside0.mk hb
              clear hs hf hb
              by_cases hjt : (j : Int) < term
              · have hj1 : (j : Int) < 1000 := by have := LT.out; omega
                go_wp2_with (go_at_call 26; (with_reducible refine (tick_fin TL.out FI.out).mono ?_); rintro e wa ⟨left8, rfl, hs, hg, hf⟩; clear TL; have TL := Aside0.mk hs; have T1_ := Aside0.mk (Gu.grant_below HB.out hg HL.out); clear HB; have HB := T1_; clear T1_; clear FI; have FI := Aside0.mk hf; clear hs hg hf)
                go_roundw
                case rel => exact ⟨j + 1, left8, by go_num, by omega, TL.out, FI.out, HB.out⟩
                case measure => simp [intOf]; omega
              · obtain rfl : (j : Int) = term := by omega
                have hd := FI.out.done
                obtain ⟨v, hv⟩ : ∃ v, st who inn gone need left9 = v := ⟨_, rfl⟩
                rw [hv] at hd
                have SV := Aside0.mk hv
                clear hv
                rcases hd with rfl | rfl
                · go_wp2_with (first | (go_at_call 30; (with_reducible refine (state_is _ TL.out SV.out).mono ?_); rintro e wa ⟨rfl, hb⟩; have T1_ := Aside0.mk (below_step HB.out hb); clear HB; have HB := T1_; clear T1_ hb) | (go_at_call 33; (with_reducible refine (sure23 _ (As.LaidG.below HG.out HB.out)).mono ?_); rintro e ws ⟨rfl, hb⟩; have T1_ := Aside0.mk (below_step HB.out hb); clear HB; have HB := T1_; clear T1_ hb))
                  go_ret
                  exact ⟨rfl, HB.out⟩
                · go_wp2_with (first | (go_at_call 30; (with_reducible refine (state_is _ TL.out SV.out).mono ?_); rintro e wa ⟨rfl, hb⟩; have T1_ := Aside0.mk (below_step HB.out hb); clear HB; have HB := T1_; clear T1_ hb) | (go_at_call 33; (with_reducible refine (sure23 _ (As.LaidG.below HG.out HB.out)).mono ?_); rintro e ws ⟨rfl, hb⟩; have T1_ := Aside0.mk (below_step HB.out hb); clear HB; have HB := T1_; clear T1_ hb))
                  go_ret
                  exact ⟨rfl, HB.out⟩
end Go.Proofs.YtfomajippdcaoaaDoor.Qu
