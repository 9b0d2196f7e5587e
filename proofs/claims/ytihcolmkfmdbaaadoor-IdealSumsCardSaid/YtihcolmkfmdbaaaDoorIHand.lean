/-
  ideal.rowed (slices.ContainsFunc at its closure) and slices.Clone of a row of numbers, walked.
-/
import Derived.Test.YtihcolmkfmdbaaaDoorBoth
import Derived.Lib.SliceRun
namespace Go.Proofs.YtihcolmkfmdbaaaDoor.Ih
open Go.RowKit Go.Proofs.YtihcolmkfmdbaaaDoorW.PrintWords Go.Proofs.YtihcolmkfmdbaaaDoorW.PrintLast Go.Proofs.YtihcolmkfmdbaaaDoorW.PrintMore

abbrev KU : Kd Int := Kd.int .u32
abbrev KR : Kd (List Int) := Kd.slice 61 KU
abbrev KP : Kd (List (List Int)) := Kd.slice 54 KR
theorem row_at {α : Type} {d : Kd α} {b : Nat} {w : World} {A : Option Addr} {n : Nat} {L : List (List α)} (h : (Kd.slice b d).C w A n L) (j : Nat) (hj : j < n) :
    ∃ ad B c, A = some ad ∧ w.cell? (ad.add j) = some (.slice B (L.getD j []).length c) ∧ (L.getD j []).length ≤ c ∧ d.C w B (L.getD j []).length (L.getD j []) := by
  obtain ⟨ad, c, rfl, _, hk, hcell⟩ := ReadsRow.get_ h [] (j : Int) (by omega) (by omega)
  rw [Int.toNat_natCast] at hk hcell
  obtain ⟨B, cc, rfl, hle, hC⟩ := hk
  refine ⟨ad, B, cc, rfl, ?_, hle, hC⟩
  have h1 := hcell 0 _ rfl
  have e : j * (Kd.slice b d).sz + 0 = j := by show j * 1 + 0 = j; omega
  rwa [e] at h1

theorem clo38 (A : Option Addr) (n c : Nat) (d : Int) (a : Addr) (w : World) (ha : w.cell? a = some (.int .i64 d)) : Calls Tryd.prog 38 #[.slice A n c, .pointer (some a)] w fun e w' => e = .returned (.bool ((n : Int) != d)) ∧ w = w' := by
  go_enter Tryd.func38, Tryd.ntmps38
  go_wp2
  go_ret
  exact ⟨rfl, rfl⟩

def IdxOut (d : Int) (l : List (List Int)) (w : World) (e : Ending) (w' : World) : Prop := ∃ r : Int, e = .returned (.int .i64 r) ∧ w = w' ∧ ((0 ≤ r ∧ ¬ ∀ x ∈ l, (x.length : Int) = d) ∨ (r < 0 ∧ ∀ x ∈ l, (x.length : Int) = d))
theorem take_all {l : List (List Int)} {d : Int} {j : Nat} (hj : j < l.length) (h : ∀ x ∈ l.take j, (x.length : Int) = d) (h2 : ((l.getD j []).length : Int) = d) : ∀ x ∈ l.take (j + 1), (x.length : Int) = d := by
  intro x hx
  rw [List.take_succ_eq_append_getElem hj, List.mem_append, List.mem_singleton] at hx
  rcases hx with hx | rfl
  · exact h x hx
  · simpa [List.getD, hj] using h2
theorem take_not {l : List (List Int)} {d : Int} {j : Nat} (hj : j < l.length) (h2 : ((l.getD j []).length : Int) ≠ d) : ¬ ∀ x ∈ l, (x.length : Int) = d := by
  intro h
  apply h2
  have := h l[j] (List.getElem_mem hj)
  simpa [List.getD, hj] using this
set_option maxHeartbeats 1000000 in
theorem idx_is (A : Option Addr) (n c : Nat) (l : List (List Int)) (d : Int) (a : Addr) (w : World) (hr : KR.C w A n l) (ha : w.cell? a = some (.int .i64 d)) :
    Calls Tryd.prog 53 #[.slice A n c, .func (.func 38) #[] #[.pointer (some a)]] w (IdxOut d l w) := by
  have HR := Aside0.mk hr
  have HL := Aside0.mk hr.1
  have hn := hr.2.1
  clear hr
  go_enter Tryd.func53, Tryd.ntmps53
  go_wp2_with fail
  go_loopw [5, 8] (fun _ i wr => ∃ j : Nat, i = .int .i64 j ∧ j ≤ n ∧ w = wr ∧ Aside0 (∀ x ∈ l.take j, (x.length : Int) = d)) (fun _ i _ => n - (intOf i).toNat)
  case atStart => exact ⟨0, rfl, by omega, rfl, ⟨by simp⟩⟩
  case round =>
    obtain ⟨j, rfl, hj, rfl, HD⟩ := hrel
    by_cases hlt : j < n
    · obtain ⟨ad, B, cc, e0, q0, _, _⟩ := row_at HR.out j hlt
      cases e0
      generalize hm : (l.getD j []).length = m at q0
      have HM := Aside0.mk hm
      clear hm
      by_cases hd : (m : Int) = d
      · have hb : ((m : Int) != d) = false := by simp [hd]
        have HE := Aside0.mk hd
        clear hd
        go_wp2_with (go_at_call 38; (with_reducible refine (clo38 _ _ _ _ _ _ ha).mono ?_); rintro e w' ⟨rfl, rfl⟩)
        go_roundw
        case rel => exact ⟨j + 1, by go_num, by omega, by first | rfl | trivial, ⟨take_all (by rw [HL.out]; exact hlt) HD.out (by rw [HM.out]; exact HE.out)⟩⟩
        case measure => simp [intOf]; omega
      · have hb : ((m : Int) != d) = true := by simpa using hd
        have HE := Aside0.mk hd
        clear hd
        go_wp2_with (go_at_call 38; (with_reducible refine (clo38 _ _ _ _ _ _ ha).mono ?_); rintro e w' ⟨rfl, rfl⟩)
        go_ret
        exact ⟨_, rfl, rfl, Or.inl ⟨by omega, take_not (by rw [HL.out]; exact hlt) (by rw [HM.out]; exact HE.out)⟩⟩
    · have hjn : j = n := by omega
      have HJ := Lib.hid hjn
      clear hjn
      go_wp2
      go_ret
      refine ⟨_, rfl, rfl, Or.inr ⟨by decide, ?_⟩⟩
      have h := HD.out
      rwa [HJ.out, List.take_of_length_le (by rw [HL.out]; exact Nat.le_refl _)] at h
def okRows (d : Int) (l : List (List Int)) : Bool := decide (∀ x ∈ l, (x.length : Int) = d)
theorem has_is (A : Option Addr) (n c : Nat) (l : List (List Int)) (d : Int) (a : Addr) (w : World) (hr : KR.C w A n l) (ha : w.cell? a = some (.int .i64 d)) :
    Calls Tryd.prog 37 #[.slice A n c, .func (.func 38) #[] #[.pointer (some a)]] w fun e w' => e = .returned (.bool (!(okRows d l))) ∧ w = w' := by
  have HR := Aside0.mk hr
  clear hr
  go_enter Tryd.func37, Tryd.ntmps37
  go_wp2_with (go_at_call 53; (with_reducible refine (idx_is _ _ _ _ _ _ _ HR.out ha).mono ?_); rintro e w' ⟨r, rfl, rfl, hd⟩; have HD := Aside0.mk hd; clear hd)
  go_ret
  refine ⟨?_, rfl⟩
  congr 2
  unfold okRows
  rcases HD.out with ⟨h1, h2⟩ | ⟨h1, h2⟩
  · rw [decide_eq_false h2]; simpa using h1
  · rw [decide_eq_true h2]; simpa using h1
theorem rowed_is (A : Option Addr) (n c : Nat) (l : List (List Int)) (d : Int) (w : World) (hr : KR.C w A n l) :
    Calls Tryd.prog 24 #[.slice A n c, .int .i64 d] w fun e w' => e = .returned (.bool (okRows d l)) ∧ Below w.heap.size w w' := by
  have HB := below_alloc (Below.refl w.heap.size w) (.cells #[.int .i64 d] 3)
  have HR := Aside0.mk (Kd.C_below hr HB)
  have HC := Aside0.mk (show (w.alloc (.cells #[.int .i64 d] 3)).cell? ⟨w.heap.size, 0, none⟩ = some (.int .i64 d) from cell_of_one (show (w.alloc (.cells #[.int .i64 d] 3)).heap[w.heap.size]? = some (.cells #[.int .i64 d] 3 (0, 0)) by show (w.heap.push _)[w.heap.size]? = _; simp))
  have HB := Aside0.mk HB
  clear hr
  go_enter Tryd.func24, Tryd.ntmps24
  go_wp2_with (go_at_call 37; (with_reducible refine (has_is _ _ _ _ _ _ _ HR.out HC.out).mono ?_); rintro e w' ⟨rfl, rfl⟩)
  go_ret
  exact ⟨by simp, HB.out⟩

theorem u54 : (Tryd.prog.info? 61).map (fun i => (i.zero, i.size, i.bytes)) = some (some (.int .u32 0), 1, 4) := by kernel_rfl
set_option maxRecDepth 100000 in
theorem clone_is (A : Option Addr) (n c : Nat) (l : List Int) (w : World) (hr : KU.C w A n l) (hc : n ≤ c) (hn : n ≤ 1000) :
    Calls Tryd.prog 54 #[.slice A n c] w fun e w' => ∃ v : Value, e = .returned v ∧ Kd.R KU 61 w' w.heap.size (fun _ => True) v l ∧ Below w.heap.size w w' := by
  have q54 : ∀ (w : World) (a : Option Addr) (n c n' c' : Nat), (binOp .eql 54 (.slice a n c) (.slice none n' c')).run Tryd.prog w = .ok (.bool a.isNone) w := fun w a n c n' c' => Lib.run_eql_slice_nil w _ _ a n c n' c' Tryd.underlying54
  have HR := Aside0.mk hr
  have HC := Aside0.mk hc
  cases A with
  | none =>
    have hn0 : n = 0 := by
      rcases Nat.eq_zero_or_pos n with h | h
      · exact h
      · obtain ⟨ad, h, _⟩ := hr.2.2 h
        cases h
    have hl0 : l = [] := List.eq_nil_of_length_eq_zero (by rw [hr.1, hn0])
    subst hn0
    subst hl0
    clear hr hc hn
    go_enter Tryd.func54, Tryd.ntmps54
    go_wp2_with fail
    go_ret
    exact ⟨_, rfl, Kd.R_nil _ _ _ _ _, Below.refl _ _⟩
  | some ad =>
    clear hr hc
    go_enter Tryd.func54, Tryd.ntmps54
    go_wp2_with (first
      | ((with_reducible refine gate_dst (N := 5) rfl ?_); (try (refine gate_guard (by rfl) ?_; dsimp only)); refine Kd.R_lit KU _ 61 ?hg (N := 5) ?hd (xs := ([] : List Int)) (inner := []) (ok := fun _ => True) (okp := fun _ => True) ?hr ?hp (fun _ hk => hk) trivial (Below.refl _ _) (Nat.le_refl _) (by simp) ?_; (case hd => rfl); (case hg => rfl); (case hr => first | (go_simp; done) | (go_simp; rfl)); (case hp => exact (Reps.none _ _)); intro vL wL hoL hbL _ _; have HOL := Aside0.mk hoL; have HBL := Aside0.mk hbL; clear hoL hbL)
      | (at_builtin; refine Kd.R_append_row (Value.int .u32) 0 (h1 := fun _ => rfl) (w0 := w) w.heap.size rfl (.tmp 5) (.tmp 6) 54 61 (.int .u32 0) 4 rfl Tryd.underlying54 u54 rfl (by decide) vL [] l (some ad) n c (fun _ => True) rfl rfl (fun _ _ => trivial) ?aO ?aR ?aB ?aS ?aL ?_; (case aO => exact HOL.out); (case aR => exact Kd.C_below HR.out HBL.out); (case aB => exact HBL.out); (case aS => exact below_size HBL.out); (case aL => simp; omega); intro v1 w1 ho hb _ _; have HO := Aside0.mk ho; have HB := Aside0.mk hb; clear ho hb))
    go_ret
    exact ⟨_, rfl, by have h := HO.out; rwa [List.nil_append] at h, HB.out⟩
end Go.Proofs.YtihcolmkfmdbaaaDoor.Ih
