/-
  The functions of vec as calls with known answers, for walks by hand.
-/
import Derived.Test.YtbfgppecpkfcnaaDoorVecFacts
import Derived.Lib.Hide
namespace Go.Proofs.YtbfgppecpkfcnaaDoor.Vt
open Go.RowKit Go.Proofs.YtbfgppecpkfcnaaDoorW.PrintWords Go.Proofs.YtbfgppecpkfcnaaDoorW.PrintLast Go.Proofs.YtbfgppecpkfcnaaDoorW.PrintMore Go.Proofs.YtbfgppecpkfcnaaDoor.PVec

/-- a row of numbers in memory -/
def Row (w : World) (A : Option Addr) (l : List Int) : Prop := Kd.C (Kd.int .u32) w A l.length l
theorem Row.below {w w1 : World} {A : Option Addr} {l : List Int} (h : Row w A l) (hb : Below w.heap.size w w1) : Row w1 A l := Kd.C_below h hb

/-- what a call leaves that makes a row -/
def Made (err : Value) (xs : List Int) (w : World) (e : Ending) (w' : World) : Prop :=
  ∃ A c, e = .returned (.tuple #[.slice A xs.length c, err]) ∧ xs.length ≤ c ∧ Row w' A xs ∧ Below w.heap.size w w'
def Told (b : Bool) (w : World) (e : Ending) (w' : World) : Prop := e = .returned (.bool b) ∧ Below w.heap.size w w'

theorem made_of {err : Value} {xs : List Int} {w : World} {e : Ending} {w' : World} (h : ∃ v0_ : Value, e = .returned (.tuple #[v0_, err]) ∧ Kd.R (Kd.int .u32) 34 w' w.heap.size (fun _ => True) v0_ xs ∧ Below w.heap.size w w') : Made err xs w e w' := by
  obtain ⟨v, rfl, hr, hb⟩ := h
  obtain ⟨A, c, rfl, hc, hC⟩ := Kd.R_reads hr
  exact ⟨A, c, rfl, hc, hC, hb⟩
theorem told_of {b : Bool} {w : World} {e : Ending} {w' : World} (h : e = .returned (.bool b) ∧ Drawn0 w w') : Told b w e w' := by
  obtain ⟨rfl, ⟨n, rfl⟩⟩ := h
  exact ⟨rfl, pw_below_drewN (Below.refl _ _) n⟩

theorem zero_is (n : Nat) (hn : n ≤ 32) (w : World) : Calls Tryd.prog 36 #[.int .i64 n] w (Made .nilIface (List.replicate n 0) w) :=
  (vec_Zero.calls n (List.replicate n 0) none w (by rw [zero_tells, if_pos (by omega)]; rfl)).mono fun _ _ h => made_of h
theorem zero_no (n : Int) (hn : ¬ (0 ≤ n ∧ n ≤ 32)) (w : World) : Calls Tryd.prog 36 #[.int .i64 n] w (Made (.iface 96 (.int .i64 1)) [] w) :=
  (vec_Zero.calls n [] (some 1) w (by rw [zero_tells, if_neg hn])).mono fun _ _ h => made_of h

section
variable {A0 A1 : Option Addr} {c0 c1 : Nat} {l0 l1 : List Int} {w : World}
theorem add_is (h0 : Row w A0 l0) (hc0 : l0.length ≤ c0) (h1 : Row w A1 l1) (hc1 : l1.length ≤ c1) (h : l0.length ≤ 32 ∧ l0.length = l1.length) :
    Calls Tryd.prog 30 #[.slice A0 l0.length c0, .slice A1 l1.length c1] w (Made .nilIface (List.zipWith Bo.op_add l0 l1) w) :=
  (vec_Add.calls A0 c0 l0 A1 c1 l1 _ none w h0 hc0 h1 hc1 (by unfold vec_Add.f; rw [if_pos h])).mono fun _ _ h => made_of h
theorem add_no (h0 : Row w A0 l0) (hc0 : l0.length ≤ c0) (h1 : Row w A1 l1) (hc1 : l1.length ≤ c1) (h : ¬ (l0.length ≤ 32 ∧ l0.length = l1.length)) :
    Calls Tryd.prog 30 #[.slice A0 l0.length c0, .slice A1 l1.length c1] w (Made (.iface 96 (.int .i64 1)) [] w) :=
  (vec_Add.calls A0 c0 l0 A1 c1 l1 [] (some 1) w h0 hc0 h1 hc1 (by unfold vec_Add.f; rw [if_neg h])).mono fun _ _ h => made_of h
theorem sub_is (h0 : Row w A0 l0) (hc0 : l0.length ≤ c0) (h1 : Row w A1 l1) (hc1 : l1.length ≤ c1) (h : l0.length ≤ 32 ∧ l0.length = l1.length) :
    Calls Tryd.prog 32 #[.slice A0 l0.length c0, .slice A1 l1.length c1] w (Made .nilIface (List.zipWith Bo.op_sub l0 l1) w) :=
  (vec_Sub.calls A0 c0 l0 A1 c1 l1 _ none w h0 hc0 h1 hc1 (by unfold vec_Sub.f; rw [if_pos h])).mono fun _ _ h => made_of h
theorem sub_no (h0 : Row w A0 l0) (hc0 : l0.length ≤ c0) (h1 : Row w A1 l1) (hc1 : l1.length ≤ c1) (h : ¬ (l0.length ≤ 32 ∧ l0.length = l1.length)) :
    Calls Tryd.prog 32 #[.slice A0 l0.length c0, .slice A1 l1.length c1] w (Made (.iface 96 (.int .i64 1)) [] w) :=
  (vec_Sub.calls A0 c0 l0 A1 c1 l1 [] (some 1) w h0 hc0 h1 hc1 (by unfold vec_Sub.f; rw [if_neg h])).mono fun _ _ h => made_of h
theorem times_is (k : Int) (h0 : Row w A0 l0) (hc0 : l0.length ≤ c0) (h : l0.length ≤ 32) :
    Calls Tryd.prog 33 #[.slice A0 l0.length c0, .int .u32 k] w (Made .nilIface (List.zipWith (Bo.op_times k) l0 l0) w) :=
  (vec_Times.calls A0 c0 l0 k _ none w h0 hc0 (by unfold vec_Times.f; rw [if_pos h])).mono fun _ _ h => made_of h
theorem times_no (k : Int) (h0 : Row w A0 l0) (hc0 : l0.length ≤ c0) (h : ¬ l0.length ≤ 32) :
    Calls Tryd.prog 33 #[.slice A0 l0.length c0, .int .u32 k] w (Made (.iface 96 (.int .i64 1)) [] w) :=
  (vec_Times.calls A0 c0 l0 k [] (some 1) w h0 hc0 (by unfold vec_Times.f; rw [if_neg h])).mono fun _ _ h => made_of h
theorem same_is (b : Bool) (h0 : Row w A0 l0) (hc0 : l0.length ≤ c0) (h1 : Row w A1 l1) (hc1 : l1.length ≤ c1) (hl : l0.length ≤ 1000) (hb : decide (l0 = l1) = b) :
    Calls Tryd.prog 37 #[.slice A0 l0.length c0, .slice A1 l1.length c1] w (Told b w) :=
  (vec_Same.calls 1001 A0 c0 l0 A1 c1 l1 b w h0 hc0 h1 hc1 (by rw [vsame_tells 1001 l0 l1 hl (by omega), hb])).mono fun _ _ h => told_of h
theorem rsame_is (b : Bool) (h0 : Row w A0 l0) (hc0 : l0.length ≤ c0) (h1 : Row w A1 l1) (hc1 : l1.length ≤ c1) (hl : l0.length ≤ 1000) (hb : decide (l0 = l1) = b) :
    Calls Tryd.prog 34 #[.slice A0 l0.length c0, .slice A1 l1.length c1] w (Told b w) :=
  (caucusref02_Same.calls 1001 A0 c0 l0 A1 c1 l1 b w h0 hc0 h1 hc1 (by rw [same_tells 1001 l0 l1 hl (by omega), hb])).mono fun _ _ h => told_of h
theorem radd_is (m : Int) (h0 : Row w A0 l0) (hc0 : l0.length ≤ c0) (h1 : Row w A1 l1) (hc1 : l1.length ≤ c1) (h : l0.length ≤ 32 ∧ l0.length = l1.length) :
    Calls Tryd.prog 31 #[.slice A0 l0.length c0, .slice A1 l1.length c1, .int .u64 m] w (Made (.bool true) (List.zipWith (rop m) l0 l1) w) :=
  (caucusref02_Add.calls 41 A0 c0 l0 A1 c1 l1 m _ true w h0 hc0 h1 hc1 (radd_ok 41 l0 l1 m h (by omega))).mono fun _ _ h => made_of h
theorem radd_bad (m : Int) (h0 : Row w A0 l0) (hc0 : l0.length ≤ c0) (h1 : Row w A1 l1) (hc1 : l1.length ≤ c1) (h : ¬ (l0.length ≤ 32 ∧ l0.length = l1.length)) :
    Calls Tryd.prog 31 #[.slice A0 l0.length c0, .slice A1 l1.length c1, .int .u64 m] w (Made (.bool false) [] w) :=
  (caucusref02_Add.calls 41 A0 c0 l0 A1 c1 l1 m [] false w h0 hc0 h1 hc1 (radd_no 41 l0 l1 m h (by omega))).mono fun _ _ h => made_of h
end

theorem sure_is (w : World) (hG : As.LaidG w) : Calls Tryd.prog 29 #[] w (Told true w) :=
  (caucuslaw02_sure.calls 1200 true w hG rfl sure_tells).mono fun _ _ h => h
theorem num_is (n : Int) (w : World) (hG : As.LaidG w) : Calls Tryd.prog 35 #[.iface 96 (.int .i64 n)] w fun e w' => e = .returned (.int .i64 n) ∧ Below w.heap.size w w' :=
  caucuslaw02_num.calls (some n) n w hG rfl
theorem num_nil (w : World) (hG : As.LaidG w) : Calls Tryd.prog 35 #[.nilIface] w fun e w' => e = .returned (.int .i64 0) ∧ Below w.heap.size w w' :=
  caucuslaw02_num.calls none 0 w hG rfl

/-- a block of numbers is a row -/
theorem row_block {w : World} {g T : Nat} {l : List Int} {fz : Nat × Nat} (h : w.heap[g]? = some (.cells (l.map (Value.int .u32)).toArray T fz)) (hl : l.length ≤ 1000) : Row w (some ⟨g, 0, none⟩) l := by
  refine Kd.C_of_reads (enc := Value.int .u32) (d := (0 : Int)) (h1 := fun _ => rfl) ⟨rfl, by omega, fun _ => ⟨⟨g, 0, none⟩, rfl, fun j hj => ?_⟩⟩
  have e : (⟨g, 0, none⟩ : Addr).add j = ⟨g, j, none⟩ := by
    unfold Addr.add
    split
    · subst j; rfl
    · simp
  rw [e]
  simp [World.cell?, h, hj]

/-! ### rows of so many numbers -/
structure Rn (n : Nat) (w : World) (A : Option Addr) (l : List Int) : Prop where
  row : Row w A l
  len : l.length = n
theorem Rn.below {n : Nat} {w w1 : World} {A : Option Addr} {l : List Int} (h : Rn n w A l) (hb : Below w.heap.size w w1) : Rn n w1 A l := ⟨h.row.below hb, h.len⟩
def MadeN (n : Nat) (err : Value) (xs : List Int) (w : World) (e : Ending) (w' : World) : Prop :=
  ∃ A c, e = .returned (.tuple #[.slice A n c, err]) ∧ n ≤ c ∧ Rn n w' A xs ∧ Below w.heap.size w w'
theorem Made.n {n : Nat} {err : Value} {xs : List Int} {w : World} {e : Ending} {w' : World} (h : Made err xs w e w') (hn : xs.length = n) : MadeN n err xs w e w' := by
  subst hn
  obtain ⟨A, c, h1, h2, h3, h4⟩ := h
  exact ⟨A, c, h1, h2, ⟨h3, rfl⟩, h4⟩
theorem zero_n (n : Nat) (m : Int) (hm : m = n) (hn : n ≤ 32) (w : World) : Calls Tryd.prog 36 #[.int .i64 m] w (MadeN n .nilIface (List.replicate n 0) w) := by
  subst hm
  exact (zero_is n hn w).mono fun _ _ h => h.n (by simp)
section
variable {n : Nat} {A0 A1 : Option Addr} {c0 c1 : Nat} {l0 l1 : List Int} {w : World}
theorem zl (f : Int → Int → Int) (h0 : l0.length = n) (h1 : l1.length = n) : (List.zipWith f l0 l1).length = n := by
  rw [List.length_zipWith]; omega
theorem add_n (h0 : Rn n w A0 l0) (hc0 : n ≤ c0) (h1 : Rn n w A1 l1) (hc1 : n ≤ c1) (h : n ≤ 32) :
    Calls Tryd.prog 30 #[.slice A0 n c0, .slice A1 n c1] w (MadeN n .nilIface (List.zipWith Bo.op_add l0 l1) w) := by
  obtain ⟨h0, e0⟩ := h0
  obtain ⟨h1, e1⟩ := h1
  have hz := zl Bo.op_add e0 e1
  rw [← e0] at hc0
  rw [← e1] at hc1
  have hh := add_is h0 hc0 h1 hc1 (by omega)
  rw [e0, e1] at hh
  exact hh.mono fun _ _ h => h.n hz
theorem sub_n (h0 : Rn n w A0 l0) (hc0 : n ≤ c0) (h1 : Rn n w A1 l1) (hc1 : n ≤ c1) (h : n ≤ 32) :
    Calls Tryd.prog 32 #[.slice A0 n c0, .slice A1 n c1] w (MadeN n .nilIface (List.zipWith Bo.op_sub l0 l1) w) := by
  obtain ⟨h0, e0⟩ := h0
  obtain ⟨h1, e1⟩ := h1
  have hz := zl Bo.op_sub e0 e1
  rw [← e0] at hc0
  rw [← e1] at hc1
  have hh := sub_is h0 hc0 h1 hc1 (by omega)
  rw [e0, e1] at hh
  exact hh.mono fun _ _ h => h.n hz
theorem times_n (k : Int) (h0 : Rn n w A0 l0) (hc0 : n ≤ c0) (h : n ≤ 32) :
    Calls Tryd.prog 33 #[.slice A0 n c0, .int .u32 k] w (MadeN n .nilIface (List.zipWith (Bo.op_times k) l0 l0) w) := by
  obtain ⟨h0, e0⟩ := h0
  have hz := zl (Bo.op_times k) e0 e0
  rw [← e0] at hc0
  have hh := times_is k h0 hc0 (by omega)
  rw [e0] at hh
  exact hh.mono fun _ _ h => h.n hz
theorem same_n (b : Bool) (h0 : Rn n w A0 l0) (hc0 : n ≤ c0) (h1 : Rn n w A1 l1) (hc1 : n ≤ c1) (h : n ≤ 1000) (hb : decide (l0 = l1) = b) :
    Calls Tryd.prog 37 #[.slice A0 n c0, .slice A1 n c1] w (Told b w) := by
  obtain ⟨h0, e0⟩ := h0
  obtain ⟨h1, e1⟩ := h1
  rw [← e0] at hc0
  rw [← e1] at hc1
  have hh := same_is b h0 hc0 h1 hc1 (by omega) hb
  rw [e0, e1] at hh
  exact hh
end
section
variable {n m : Nat} {A0 A1 : Option Addr} {c0 c1 : Nat} {l0 l1 : List Int} {w : World}
theorem add_nn (h0 : Rn n w A0 l0) (hc0 : n ≤ c0) (h1 : Rn m w A1 l1) (hc1 : m ≤ c1) (h : ¬ (n ≤ 32 ∧ n = m)) :
    Calls Tryd.prog 30 #[.slice A0 n c0, .slice A1 m c1] w (MadeN 0 (.iface 96 (.int .i64 1)) [] w) := by
  obtain ⟨h0, rfl⟩ := h0
  obtain ⟨h1, rfl⟩ := h1
  exact (add_no h0 hc0 h1 hc1 h).mono fun _ _ h => h.n rfl
theorem sub_nn (h0 : Rn n w A0 l0) (hc0 : n ≤ c0) (h1 : Rn m w A1 l1) (hc1 : m ≤ c1) (h : ¬ (n ≤ 32 ∧ n = m)) :
    Calls Tryd.prog 32 #[.slice A0 n c0, .slice A1 m c1] w (MadeN 0 (.iface 96 (.int .i64 1)) [] w) := by
  obtain ⟨h0, rfl⟩ := h0
  obtain ⟨h1, rfl⟩ := h1
  exact (sub_no h0 hc0 h1 hc1 h).mono fun _ _ h => h.n rfl
theorem times_nn (k : Int) (h0 : Rn n w A0 l0) (hc0 : n ≤ c0) (h : ¬ n ≤ 32) :
    Calls Tryd.prog 33 #[.slice A0 n c0, .int .u32 k] w (MadeN 0 (.iface 96 (.int .i64 1)) [] w) := by
  obtain ⟨h0, rfl⟩ := h0
  exact (times_no k h0 hc0 h).mono fun _ _ h => h.n rfl
theorem zero_nn (m : Int) (hn : ¬ (0 ≤ m ∧ m ≤ 32)) (w : World) : Calls Tryd.prog 36 #[.int .i64 m] w (MadeN 0 (.iface 96 (.int .i64 1)) [] w) :=
  (zero_no m hn w).mono fun _ _ h => h.n rfl
theorem radd_n (k : Int) (h0 : Rn n w A0 l0) (hc0 : n ≤ c0) (h1 : Rn n w A1 l1) (hc1 : n ≤ c1) (h : n ≤ 32) :
    Calls Tryd.prog 31 #[.slice A0 n c0, .slice A1 n c1, .int .u64 k] w (MadeN n (.bool true) (List.zipWith (rop k) l0 l1) w) := by
  obtain ⟨h0, e0⟩ := h0
  obtain ⟨h1, e1⟩ := h1
  have hz := zl (rop k) e0 e1
  rw [← e0] at hc0
  rw [← e1] at hc1
  have hh := radd_is k h0 hc0 h1 hc1 (by omega)
  rw [e0, e1] at hh
  exact hh.mono fun _ _ h => h.n hz
theorem radd_nn (k : Int) (h0 : Rn n w A0 l0) (hc0 : n ≤ c0) (h1 : Rn m w A1 l1) (hc1 : m ≤ c1) (h : ¬ (n ≤ 32 ∧ n = m)) :
    Calls Tryd.prog 31 #[.slice A0 n c0, .slice A1 m c1, .int .u64 k] w (MadeN 0 (.bool false) [] w) := by
  obtain ⟨h0, rfl⟩ := h0
  obtain ⟨h1, rfl⟩ := h1
  exact (radd_bad k h0 hc0 h1 hc1 h).mono fun _ _ h => h.n rfl
theorem same_nn (b : Bool) (h0 : Rn n w A0 l0) (hc0 : n ≤ c0) (h1 : Rn m w A1 l1) (hc1 : m ≤ c1) (h : n ≤ 1000) (hb : decide (l0 = l1) = b) :
    Calls Tryd.prog 37 #[.slice A0 n c0, .slice A1 m c1] w (Told b w) := by
  obtain ⟨h0, rfl⟩ := h0
  obtain ⟨h1, rfl⟩ := h1
  exact same_is b h0 hc0 h1 hc1 h hb
theorem rsame_nn (b : Bool) (h0 : Rn n w A0 l0) (hc0 : n ≤ c0) (h1 : Rn m w A1 l1) (hc1 : m ≤ c1) (h : n ≤ 1000) (hb : decide (l0 = l1) = b) :
    Calls Tryd.prog 34 #[.slice A0 n c0, .slice A1 m c1] w (Told b w) := by
  obtain ⟨h0, rfl⟩ := h0
  obtain ⟨h1, rfl⟩ := h1
  exact rsame_is b h0 hc0 h1 hc1 h hb
theorem Rn.of_R {base : Nat} {ok : Nat → Prop} {v : Value} {l : List Int} {e : Nat} (h : Kd.R (Kd.int .u32) e w base ok v l) (hn : l.length = n) : ∃ A c, v = .slice A n c ∧ n ≤ c ∧ Rn n w A l := by
  subst hn
  obtain ⟨A, c, rfl, hc, hC⟩ := Kd.R_reads h
  exact ⟨A, c, rfl, hc, ⟨hC, rfl⟩⟩
end
end Go.Proofs.YtbfgppecpkfcnaaDoor.Vt
