/-
  The functions of set, slices.Clone and slices.Equal, and the comparers, as calls with known answers.
-/
import Derived.Test.YtfomajippdcaoaaDoorSetFacts
import Derived.Test.YtfomajippdcaoaaDoorAs
import Derived.Lib.Hide
import Derived.Lib.SliceRun
import Derived.Deep.QuietTactic
import Derived.LoopTactic
import Derived.StillTailTactics
import Derived.Deep.RegionWith
import Derived.Deep.RegionHeld3
import Derived.Deep.DeepCutAuto
import Derived.Deep.CutBlock
namespace Go.Proofs.YtfomajippdcaoaaDoor.Sc
open Go.RowKit Go.Proofs.YtfomajippdcaoaaDoorW.PrintWords Go.Proofs.YtfomajippdcaoaaDoorW.PrintLast Go.Proofs.YtfomajippdcaoaaDoorW.PrintMore Go.Proofs.YtfomajippdcaoaaDoor.PSet

/-- a row of numbers in memory -/
structure Rn (w : World) (A : Option Addr) (n c : Nat) (l : List Int) : Prop where
  row : Kd.C (Kd.int .i64) w A l.length l
  len : l.length = n
  cap : n ≤ c
theorem Rn.below {n c : Nat} {w w1 : World} {A : Option Addr} {l : List Int} (h : Rn w A n c l) (hb : Below w.heap.size w w1) : Rn w1 A n c l := ⟨Kd.C_below h.row hb, h.len, h.cap⟩
theorem Rn.c {n c : Nat} {w : World} {A : Option Addr} {l : List Int} (h : Rn w A n c l) : Kd.C (Kd.int .i64) w A n l := by
  obtain ⟨h, rfl, _⟩ := h
  exact h
theorem Rn.nil (w : World) : Rn w none 0 0 [] := ⟨Kd.C_nil _ _, rfl, Nat.le_refl _⟩
theorem Rn.of_R {base : Nat} {ok : Nat → Prop} {v : Value} {w : World} {l : List Int} {e : Nat} (h : Kd.R (Kd.int .i64) e w base ok v l) : ∃ A c, v = .slice A l.length c ∧ Rn w A l.length c l := by
  obtain ⟨A, c, rfl, hc, hC⟩ := Kd.R_reads h
  exact ⟨A, c, rfl, hC, rfl, hc⟩

/-- what a call tells that makes nothing -/
def Told (v : Value) (w : World) (e : Ending) (w' : World) : Prop := e = .returned v ∧ Below w.heap.size w w'
theorem told_of {v : Value} {w : World} {e : Ending} {w' : World} (h : e = .returned v ∧ Drawn0 w w') : Told v w e w' := by
  obtain ⟨rfl, ⟨n, rfl⟩⟩ := h
  exact ⟨rfl, pw_below_drewN (Below.refl _ _) n⟩
/-- a row of its own -/
def MadeR (xs : List Int) (w : World) (e : Ending) (w' : World) : Prop := ∃ A n c, e = .returned (.slice A n c) ∧ Rn w' A n c xs ∧ Below w.heap.size w w'
theorem made_of {xs : List Int} {w : World} {e : Ending} {w' : World} (h : ∃ v0_ : Value, e = .returned (v0_) ∧ Kd.R (Kd.int .i64) 3 w' w.heap.size (fun _ => True) v0_ xs ∧ Below w.heap.size w w') : MadeR xs w e w' := by
  obtain ⟨v, rfl, hr, hb⟩ := h
  obtain ⟨A, c, rfl, hR⟩ := Rn.of_R hr
  exact ⟨A, _, c, rfl, hR, hb⟩

section
variable {n c n1 c1 : Nat} {A B : Option Addr} {l m : List Int} {w : World}
theorem check_ok (h : Rn w A n c l) (hl : n ≤ 1000) (hi : inc (-1) l = true) : Calls Tryd.prog 42 #[.slice A n c] w (Told .nilIface w) := by
  obtain ⟨h, rfl, hc⟩ := h
  exact (set_Check.calls 1001 A c l none w h hc (by rw [check_tells 1001 l hl (by omega), if_pos hi])).mono fun _ _ h => told_of h
theorem check_no (h : Rn w A n c l) (hl : n ≤ 1000) (hi : inc (-1) l = false) : Calls Tryd.prog 42 #[.slice A n c] w (Told (.iface 75 (.int .i64 1)) w) := by
  obtain ⟨h, rfl, hc⟩ := h
  exact (set_Check.calls 1001 A c l (some 1) w h hc (by rw [check_tells 1001 l hl (by omega), if_neg (by rw [hi]; decide)])).mono fun _ _ h => told_of h
theorem has_is (b : Bool) (x : Int) (h : Rn w A n c l) (hl : n ≤ 1000) (hb : decide (0 ≤ x ∧ x < 64 ∧ x ∈ l) = b) : Calls Tryd.prog 46 #[.slice A n c, .int .i64 x] w (Told (.bool b) w) := by
  obtain ⟨h, rfl, hc⟩ := h
  exact (set_Has.calls 1001 A c l x b w h hc (by rw [has_tells 1001 l x hl (by omega), hb])).mono fun _ _ h => told_of h
theorem less_is (h : Rn w A n c l) (hl : n ≤ 1000) (h1 : Rn w B n1 c1 m) (hl1 : n1 ≤ 1000) : Calls Tryd.prog 44 #[.slice A n c, .slice B n1 c1] w (MadeR (sel fun n => decide ((n : Int) ∈ l) && !decide ((n : Int) ∈ m)) w) := by
  obtain ⟨h, rfl, hc⟩ := h
  obtain ⟨h1, rfl, hc1⟩ := h1
  exact (set_Less.calls 1001 A c l B c1 m _ w h hc h1 hc1 (less_tells 1001 l m hl hl1 (by omega))).mono fun _ _ h => made_of h
theorem either_is (h : Rn w A n c l) (hl : n ≤ 1000) (h1 : Rn w B n1 c1 m) (hl1 : n1 ≤ 1000) : Calls Tryd.prog 50 #[.slice A n c, .slice B n1 c1] w (MadeR (sel fun n => decide ((n : Int) ∈ l) || decide ((n : Int) ∈ m)) w) := by
  obtain ⟨h, rfl, hc⟩ := h
  obtain ⟨h1, rfl, hc1⟩ := h1
  exact (set_Either.calls 1001 A c l B c1 m _ w h hc h1 hc1 (either_tells 1001 l m hl hl1 (by omega))).mono fun _ _ h => made_of h
theorem equal_is (b : Bool) (h : Rn w A n c l) (hl : n ≤ 1000) (h1 : Rn w B n1 c1 m) (hb : decide (l = m) = b) : Calls Tryd.prog 45 #[.slice A n c, .slice B n1 c1] w (Told (.bool b) w) := by
  obtain ⟨h, rfl, hc⟩ := h
  obtain ⟨h1, rfl, hc1⟩ := h1
  exact (slices_Equal_int_int.calls 1001 A c l B c1 m b w h hc h1 hc1 (by rw [equal_tells 1001 l m hl (by omega), hb])).mono fun _ _ h => told_of h
theorem ints_is (b : Bool) (h : Rn w A n c l) (hl : n ≤ 1000) (h1 : Rn w B n1 c1 m) (hb : decide (l = m) = b) : Calls Tryd.prog 24 #[.slice A n c, .slice B n1 c1] w (Told (.bool b) w) := by
  obtain ⟨h, rfl, hc⟩ := h
  obtain ⟨h1, rfl, hc1⟩ := h1
  exact (caucuslaw26_ints.calls 1001 A c l B c1 m b w h hc h1 hc1 (by rw [ints_tells 1001 l m hl (by omega), hb])).mono fun _ _ h => told_of h
end

theorem info3 : (Tryd.prog.info? 3).map (fun i => (i.zero, i.size, i.bytes)) = some (some (.int .i64 0), 1, 8) := by kernel_rfl

/-- slices.Clone: a row of its own (in a block of type 3, from w's end on), or nil. -/
def Cloned (xs : List Int) (w : World) (e : Ending) (w' : World) : Prop := ∃ v, e = .returned v ∧ Kd.R (Kd.int .i64) 3 w' w.heap.size (fun _ => True) v xs ∧ Below w.heap.size w w'
set_option maxRecDepth 100000 in
theorem clone_nil (c : Nat) (w : World) : Calls Tryd.prog 43 #[.slice none 0 c] w (Cloned [] w) := by
  have en : ∀ (W : World) (a : Option Addr) (n c : Nat), (binOp .eql 31 (.slice a n c) (.slice none 0 0)).run Tryd.prog W = .ok (.bool a.isNone) W := fun W a n c => Lib.run_eql_slice_nil (P := Tryd.prog) W 31 3 a n c 0 0 Tryd.underlying31
  go_enter Tryd.func43, Tryd.ntmps43
  go_wp2
  go_ret
  exact ⟨_, rfl, Kd.R_nil _ _ _ _ _, Below.refl _ _⟩
set_option maxRecDepth 100000 in
theorem clone_is {n c : Nat} {a : Addr} {l : List Int} {w : World} (h : Rn w (some a) n c l) (hl : n ≤ 1000) : Calls Tryd.prog 43 #[.slice (some a) n c] w (Cloned l w) := by
  have H := Aside0.mk h
  have HL := Aside0.mk hl
  clear h hl
  have en : ∀ (W : World) (a : Option Addr) (n c : Nat), (binOp .eql 31 (.slice a n c) (.slice none 0 0)).run Tryd.prog W = .ok (.bool a.isNone) W := fun W a n c => Lib.run_eql_slice_nil (P := Tryd.prog) W 31 3 a n c 0 0 Tryd.underlying31
  go_enter Tryd.func43, Tryd.ntmps43
  go_wp2_with (first | ((with_reducible refine gate_dst (N := 5) rfl ?_); (try (refine gate_guard (by rfl) ?_; dsimp only)); refine Kd.R_lit (Kd.int .i64) _ 3 ?hg (N := 5) ?hd (xs := ([] : List Int)) (inner := []) (ok := fun _ => True) (okp := fun _ => True) ?hr ?hp (fun _ hk => hk) trivial (Below.refl _ _) (Nat.le_refl _) (by simp) ?_; (case hd => rfl); (case hg => rfl); (case hr => first | (go_simp; done) | (go_simp; rfl)); (case hp => exact (Reps.none _ _)); intro vL wL hoL hbL _ _; have HOL := Aside0.mk hoL; have HBL := Aside0.mk hbL; clear hoL hbL) | ((with_reducible refine gate_builtin (b := .append) (xs := #[.tmp 5, .tmp 6]) rfl ?_); go_loud ((try (refine gate_guard (by rfl) ?_; dsimp only)); at_builtin; refine Kd.R_append_rows (Kd.int .i64) _ rfl (.tmp 5) (.tmp 6) 31 3 (.int .i64 0) 8 rfl Tryd.underlying31 info3 rfl (by decide) (by omega) vL [] l _ _ _ (fun _ => True) (fun _ => False) rfl rfl HOL.out (Rn.c (Rn.below H.out HBL.out)) (fun _ _ h => h) (fun _ h => h.elim) (fun _ _ => trivial) HBL.out HBL.out.size ?aL ?_; (case aL => have := HL.out; simp; omega); intro vC wC hoC hbC _ _; rw [List.nil_append] at hoC; have HOC := Aside0.mk hoC; have HBC := Aside0.mk hbC; clear hoC hbC)))
  go_ret
  exact ⟨_, rfl, HOC.out, HBC.out⟩
theorem clone_all {n c : Nat} {A : Option Addr} {l : List Int} {w : World} (h : Rn w A n c l) (hl : n ≤ 1000) : Calls Tryd.prog 43 #[.slice A n c] w (Cloned l w) := by
  cases A with
  | some a => exact clone_is h hl
  | none =>
    have h0 : n = 0 := by
      rcases Nat.eq_zero_or_pos n with h1 | h1
      · exact h1
      · obtain ⟨ad, e, _⟩ := (Kd.reads_of_C (d := (0 : Int)) h.c).2.2 h1
        cases e
    subst h0
    have : l = [] := List.length_eq_zero_iff.1 h.len
    subst this
    exact clone_nil c w

theorem Rn.lt {w : World} {A : Option Addr} {n c : Nat} {l : List Int} (h : Rn w A n c l) (hp : 0 < n) : ∀ ad, A = some ad → ad.block < w.heap.size := by
  rintro ad rfl
  obtain ⟨_, _, h3⟩ := Kd.reads_of_C (d := (0 : Int)) h.c
  obtain ⟨ad', e, hc⟩ := h3 hp
  cases e
  have h0 := hc 0 hp
  rw [show ad.add 0 = ad by simp [Addr.add]] at h0
  rcases Nat.lt_or_ge ad.block w.heap.size with h | h
  · exact h
  · simp [World.cell?, Array.getElem?_eq_none h] at h0

theorem Rn.grown {w w' : World} {A : Option Addr} {n c g : Nat} {l : List Int} (h : Rn w A n c l) (hg : w.grownBy w' (some g)) (hne : 0 < n → ∀ ad, A = some ad → ad.block ≠ g) : Rn w' A n c l := by
  have hlt := Rn.lt h
  obtain ⟨e, b, h3⟩ := Kd.reads_of_C (d := (0 : Int)) h.c
  refine ⟨?_, h.len, h.cap⟩
  rw [h.len]
  refine Kd.C_of_reads (enc := Value.int .i64) (d := (0 : Int)) (h1 := fun _ => rfl) ⟨e, b, fun hp => ?_⟩
  obtain ⟨ad, rfl, hc⟩ := h3 hp
  refine ⟨ad, rfl, fun j hj => ?_⟩
  rw [← hc j hj]
  have hb : (ad.add j).block = ad.block := by unfold Addr.add; split <;> rfl
  exact World.cell?_of_block (by rw [hb]; exact hg.block ad.block (hlt hp ad rfl) (by intro e; exact hne hp ad rfl (by injection e)))
end Go.Proofs.YtfomajippdcaoaaDoor.Sc
