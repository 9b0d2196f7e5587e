/-
  vec.Add, vec.Sub, vec.Times: vec.both at each of its three closures, walked: number by number a row out of two, or the error.
-/
import Derived.Test.YtihcolmkfmdbaaaDoorProg
import Derived.Below
import Derived.Deep.Draws
import Derived.Deep.AppendLies
import Derived.Maps.AppendAt
import Derived.OwnWalk
import Derived.Laws.BytesArg
import Derived.Laws.MakeOwn
import Derived.Laws.OwnMore
import Derived.Deep.OwnRows
import Derived.Tactics
import Derived.Lib.ConvBytes
import Derived.Laws.Slices
import Derived.WalkKit
import Derived.KernelRfl
import Derived.RowKit3
import Derived.Deep.LoopGhost
import Derived.Deep.QuietTactic
import Derived.BigQuiet
import Derived.WideLaws
import Derived.Deep.DeepCutAuto
import Derived.Deep.CutBlock
import Derived.Deep.RegionHeld3
import Derived.Laws.Rows
import Derived.Lib.AppendStr
import Derived.ArgAppend
import Derived.Laws.IdiomCopy
import Derived.OrdersHeld
import Derived.Laws.BitsLemmas
import Derived.RowKit
import Derived.Test.YtihcolmkfmdbaaaDoorWWords
import Derived.Test.YtihcolmkfmdbaaaDoorWLast
import Derived.Test.YtihcolmkfmdbaaaDoorWTab
import Derived.Test.YtihcolmkfmdbaaaDoorWApart
import Derived.Test.YtihcolmkfmdbaaaDoorWFoot
import Derived.Test.YtihcolmkfmdbaaaDoorWKept
import Derived.Test.YtihcolmkfmdbaaaDoorWShare
import Derived.Test.YtihcolmkfmdbaaaDoorWN
import Derived.Test.YtihcolmkfmdbaaaDoorWFootNe
import Derived.Test.YtihcolmkfmdbaaaDoorWAt
import Derived.Laws.StructEq
import Derived.Test.YtihcolmkfmdbaaaDoorWRepsOne
import Derived.Test.YtihcolmkfmdbaaaDoorWGuard
import Derived.Test.YtihcolmkfmdbaaaDoorWNEv
import Derived.Test.YtihcolmkfmdbaaaDoorWMore
import Derived.LoopTactic
import Derived.Outline
import Derived.Lib.Hide
import Derived.OneCell
namespace Go.Proofs.YtihcolmkfmdbaaaDoor.Bo
open Go.RowKit Go.Proofs.YtihcolmkfmdbaaaDoorW.PrintWords Go.Proofs.YtihcolmkfmdbaaaDoorW.PrintLast Go.Proofs.YtihcolmkfmdbaaaDoorW.PrintMore

theorem info61 : (Tryd.prog.info? 61).map (fun i => (i.zero, i.size, i.bytes)) = some (some (.int .u32 0), 1, 4) := by kernel_rfl

theorem r_made (w : World) (n : Nat) (hn : n ≤ 32) : (Kd.int .u32).R 61 (w.alloc (.cells (madeCells (Value.int .u32 0).cells (n * 1)) 61)) w.heap.size (fun _ => True) (.slice (some ⟨w.heap.size, 0, none⟩) 0 n) [] := by
  have h := World.ownsRow_lit (base := w.heap.size) (e := 61) (size := 1) w (madeCells (Value.int .u32 0).cells (n * 1)) n (Nat.le_refl _) (by unfold maxLen; omega) (by simp [size_madeCells])
  have h2 := own_take h (Nat.zero_le n)
  refine Kd.R_of_own ?_ (fun _ _ => trivial)
  simpa [encs] using h2
theorem r_made' (w : World) (n : Nat) (hn : n ≤ 32) : (Kd.int .u32).R 61 (w.alloc (.cells (madeCells #[Value.int .u32 0] n) 61)) w.heap.size (fun _ => True) (.slice (some ⟨w.heap.size, 0, none⟩) 0 n) [] := by
  have h := r_made w n hn
  rw [Nat.mul_one] at h
  exact h

theorem zip_len (op : Int → Int → Int) (l0 l1 : List Int) (j : Nat) : ((List.zipWith op l0 l1).take j).length ≤ l0.length := by
  rw [List.length_take, List.length_zipWith]; omega
theorem zip_snoc (op : Int → Int → Int) (l0 l1 : List Int) (j : Nat) (h0 : j < l0.length) (h1 : j < l1.length) :
    (List.zipWith op l0 l1).take j ++ [op (rd l0 j) (rd l1 j)] = (List.zipWith op l0 l1).take (j + 1) := by
  rw [List.take_succ_eq_append_getElem (by rw [List.length_zipWith]; omega)]
  congr 2
  simp [rd, List.getElem?_eq_getElem h0, List.getElem?_eq_getElem h1]

def op_add : Int → Int → Int := fun x y => (x + y) % 4294967296
theorem clo_add (x y : Int) (w : World) : Calls Tryd.prog 48 #[.int .u32 x, .int .u32 y] w fun e w' => e = .returned (.int .u32 (op_add x y)) ∧ w = w' := by
  go_enter Tryd.func48, Tryd.ntmps48
  go_wp2
  go_ret
  exact ⟨rfl, rfl⟩
theorem both_add_no (v0 v1 : Option Addr) (n0 n1 c0 c1 : Nat) (f : Value) (w : World) (h : 32 < n0 ∨ n0 ≠ n1) :
    Calls Tryd.prog 46 #[.slice v0 n0 c0, .slice v1 n1 c1, f] w fun e w' => e = .returned (.tuple #[.slice none 0 0, .iface 63 (.int .i64 1)]) ∧ w = w' := by
  by_cases h1 : 32 < n0
  · have a1 : decide (32 < (n0 : Int)) = true := decide_eq_true (by omega)
    have a2 : decide (32 < n0) = true := decide_eq_true h1
    clear h
    go_enter Tryd.func46, Tryd.ntmps46
    go_wp2
    go_ret2
    exact ⟨rfl, rfl⟩
  · have h2 : n0 ≠ n1 := by omega
    have a1 : decide (32 < (n0 : Int)) = false := decide_eq_false (by omega)
    have a2 : decide (32 < n0) = false := decide_eq_false h1
    have a3 : ((n0 : Int) != (n1 : Int)) = true := by simpa using (show ¬ ((n0 : Int) = (n1 : Int)) by omega)
    have a4 : (n0 != n1) = true := by simpa using h2
    clear h
    go_enter Tryd.func46, Tryd.ntmps46
    go_wp2
    go_ret2
    exact ⟨rfl, rfl⟩

def BothOut_add (xs : List Int) (w : World) (e : Ending) (w' : World) : Prop := ∃ v0_ : Value, e = .returned (.tuple #[v0_, .nilIface]) ∧ Kd.R (Kd.int .u32) 61 w' w.heap.size (fun _ => True) v0_ xs ∧ Below w.heap.size w w'
set_option maxHeartbeats 1000000 in
theorem both_add_ok (A0 A1 : Option Addr) (c0 c1 : Nat) (l0 l1 : List Int) (w : World) (hr0 : Kd.C (Kd.int .u32) w A0 l0.length l0) (hr1 : Kd.C (Kd.int .u32) w A1 l1.length l1) (h32 : l0.length ≤ 32) (hll : l0.length = l1.length) :
    Calls Tryd.prog 46 #[.slice A0 l0.length c0, .slice A1 l1.length c1, Value.func (Fn.func 48) #[] #[]] w (BothOut_add (List.zipWith (op_add) l0 l1) w) := by
  have HR0 := Aside0.mk hr0
  have HR1 := Aside0.mk hr1
  have HLL := Aside0.mk hll
  clear hr0 hr1
  have a1 : decide (32 < (l0.length : Int)) = false := decide_eq_false (by omega)
  have a2 : decide (32 < l0.length) = false := decide_eq_false (by omega)
  have a3 : ((l0.length : Int) != (l1.length : Int)) = false := by simp [hll]
  have a4 : (l0.length != l1.length) = false := by simp [hll]
  have hle : l1.length ≤ l0.length := by omega
  have hle2 : l0.length ≤ l1.length := by omega
  clear hll
  obtain ⟨i0, hi, hz⟩ := Option.map_eq_some_iff.1 info61
  simp only [Prod.mk.injEq] at hz
  obtain ⟨hz0, hz1, hz2⟩ := hz
  have hmk0 : ∀ (W : World), (Instr.makeSlice 54 (.int .i64 0) (.int .i64 (l0.length : Int))).run Tryd.prog W = .ok (.slice (some ⟨W.heap.size, 0, none⟩) 0 l0.length) (W.alloc (.cells (madeCells (Value.int .u32 0).cells (l0.length * 1)) 61)) := fun W => by
    have h := run_make (P := Tryd.prog) W 54 61 i0 (.int .u32 0) Tryd.underlying54 hi hz0 .i64 .i64 0 (l0.length : Int) (by omega) (by omega) (by rw [hz2]; omega) (by omega)
    rw [hz1] at h
    simpa using h
  clear hz0 hz1 hz2 hi
  go_enter Tryd.func46, Tryd.ntmps46
  go_wp2_with fail
  go_loopw [8, 27] (fun v i wr => ∃ j : Nat, i = .int .i64 j ∧ j ≤ l0.length ∧ Aside0 (Kd.R (Kd.int .u32) 61 wr w.heap.size (fun _ => True) v ((List.zipWith (op_add) l0 l1).take j)) ∧ Aside0 (Below w.heap.size w wr)) (fun _ i _ => l0.length - (intOf i).toNat)
  case atStart => exact ⟨0, rfl, by omega, ⟨by rw [List.take_zero]; exact r_made' w l0.length h32⟩, ⟨below_alloc (Below.refl _ _) _⟩⟩
  case round =>
    obtain ⟨j, rfl, hj, HO, HB⟩ := hrel
    by_cases hlt : j < l0.length
    · obtain ⟨ad0, e0, q0⟩ := Kd.at_int HR0.out (j : Int) (by omega) (by omega)
      obtain ⟨ad1, e1, q1⟩ := Kd.at_int HR1.out (j : Int) (by omega) (by omega)
      rw [Int.toNat_natCast] at q0 q1
      replace q0 := (HB.out.cell (World.block_lt_of_cell? w _ q0)).trans q0
      replace q1 := (HB.out.cell (World.block_lt_of_cell? w _ q1)).trans q1
      cases e0
      cases e1
      have hl1 : j < l1.length := by omega
      have HZ := Aside0.mk (zip_snoc (op_add) l0 l1 j hlt hl1)
      have hzl := zip_len (op_add) l0 l1 j
      go_wp2_with (first
        | (go_at_call 48; (with_reducible refine (clo_add _ _ _).mono ?_); rintro e w' ⟨rfl, rfl⟩)
        | (at_builtin; refine Kd.R_append (Kd.int .u32) (w0 := w) w.heap.size rfl (.tmp 32) (.tmp 40) 54 61 (.int .u32 0) 4 rfl Tryd.underlying54 info61 rfl (by decide) (by omega) u8 ((List.zipWith (op_add) l0 l1).take j) ((op_add) (rd l0 j) (rd l1 j)) [.int .u32 ((op_add) (rd l0 j) (rd l1 j))] (fun _ => True) (fun _ => False) rfl rfl ?aP (fun _ hk => hk.elim) ?aF ?aO ?aB ?aS ?aL ?_; (case aP => exact rfl); (case aB => exact HB.out); (case aF => exact (fun _ _ => trivial)); (case aO => exact HO.out); (case aS => exact below_size HB.out); (case aL => omega); intro v124 w12 ho hb hg hat; rw [HZ.out] at ho; have HO2 := Aside0.mk ho; have HB2 := Aside0.mk hb; clear ho hb hg hat))
      go_roundw
      case rel => exact ⟨j + 1, by go_num, by omega, HO2, HB2⟩
      case measure => simp [intOf]; omega
    · have hje : j = l0.length := by omega
      have HJ := Lib.hid hje
      clear hje
      go_wp2
      go_ret2
      refine ⟨_, rfl, ?_, HB.out⟩
      have h := HO.out
      rw [HJ.out, List.take_of_length_le (by rw [List.length_zipWith]; omega)] at h
      exact h
def op_sub : Int → Int → Int := fun x y => (x - y) % 4294967296
theorem clo_sub (x y : Int) (w : World) : Calls Tryd.prog 47 #[.int .u32 x, .int .u32 y] w fun e w' => e = .returned (.int .u32 (op_sub x y)) ∧ w = w' := by
  go_enter Tryd.func47, Tryd.ntmps47
  go_wp2
  go_ret
  exact ⟨rfl, rfl⟩

def BothOut_sub (xs : List Int) (w : World) (e : Ending) (w' : World) : Prop := ∃ v0_ : Value, e = .returned (.tuple #[v0_, .nilIface]) ∧ Kd.R (Kd.int .u32) 61 w' w.heap.size (fun _ => True) v0_ xs ∧ Below w.heap.size w w'
set_option maxHeartbeats 1000000 in
theorem both_sub_ok (A0 A1 : Option Addr) (c0 c1 : Nat) (l0 l1 : List Int) (w : World) (hr0 : Kd.C (Kd.int .u32) w A0 l0.length l0) (hr1 : Kd.C (Kd.int .u32) w A1 l1.length l1) (h32 : l0.length ≤ 32) (hll : l0.length = l1.length) :
    Calls Tryd.prog 46 #[.slice A0 l0.length c0, .slice A1 l1.length c1, Value.func (Fn.func 47) #[] #[]] w (BothOut_sub (List.zipWith (op_sub) l0 l1) w) := by
  have HR0 := Aside0.mk hr0
  have HR1 := Aside0.mk hr1
  have HLL := Aside0.mk hll
  clear hr0 hr1
  have a1 : decide (32 < (l0.length : Int)) = false := decide_eq_false (by omega)
  have a2 : decide (32 < l0.length) = false := decide_eq_false (by omega)
  have a3 : ((l0.length : Int) != (l1.length : Int)) = false := by simp [hll]
  have a4 : (l0.length != l1.length) = false := by simp [hll]
  have hle : l1.length ≤ l0.length := by omega
  have hle2 : l0.length ≤ l1.length := by omega
  clear hll
  obtain ⟨i0, hi, hz⟩ := Option.map_eq_some_iff.1 info61
  simp only [Prod.mk.injEq] at hz
  obtain ⟨hz0, hz1, hz2⟩ := hz
  have hmk0 : ∀ (W : World), (Instr.makeSlice 54 (.int .i64 0) (.int .i64 (l0.length : Int))).run Tryd.prog W = .ok (.slice (some ⟨W.heap.size, 0, none⟩) 0 l0.length) (W.alloc (.cells (madeCells (Value.int .u32 0).cells (l0.length * 1)) 61)) := fun W => by
    have h := run_make (P := Tryd.prog) W 54 61 i0 (.int .u32 0) Tryd.underlying54 hi hz0 .i64 .i64 0 (l0.length : Int) (by omega) (by omega) (by rw [hz2]; omega) (by omega)
    rw [hz1] at h
    simpa using h
  clear hz0 hz1 hz2 hi
  go_enter Tryd.func46, Tryd.ntmps46
  go_wp2_with fail
  go_loopw [8, 27] (fun v i wr => ∃ j : Nat, i = .int .i64 j ∧ j ≤ l0.length ∧ Aside0 (Kd.R (Kd.int .u32) 61 wr w.heap.size (fun _ => True) v ((List.zipWith (op_sub) l0 l1).take j)) ∧ Aside0 (Below w.heap.size w wr)) (fun _ i _ => l0.length - (intOf i).toNat)
  case atStart => exact ⟨0, rfl, by omega, ⟨by rw [List.take_zero]; exact r_made' w l0.length h32⟩, ⟨below_alloc (Below.refl _ _) _⟩⟩
  case round =>
    obtain ⟨j, rfl, hj, HO, HB⟩ := hrel
    by_cases hlt : j < l0.length
    · obtain ⟨ad0, e0, q0⟩ := Kd.at_int HR0.out (j : Int) (by omega) (by omega)
      obtain ⟨ad1, e1, q1⟩ := Kd.at_int HR1.out (j : Int) (by omega) (by omega)
      rw [Int.toNat_natCast] at q0 q1
      replace q0 := (HB.out.cell (World.block_lt_of_cell? w _ q0)).trans q0
      replace q1 := (HB.out.cell (World.block_lt_of_cell? w _ q1)).trans q1
      cases e0
      cases e1
      have hl1 : j < l1.length := by omega
      have HZ := Aside0.mk (zip_snoc (op_sub) l0 l1 j hlt hl1)
      have hzl := zip_len (op_sub) l0 l1 j
      go_wp2_with (first
        | (go_at_call 47; (with_reducible refine (clo_sub _ _ _).mono ?_); rintro e w' ⟨rfl, rfl⟩)
        | (at_builtin; refine Kd.R_append (Kd.int .u32) (w0 := w) w.heap.size rfl (.tmp 32) (.tmp 40) 54 61 (.int .u32 0) 4 rfl Tryd.underlying54 info61 rfl (by decide) (by omega) u8 ((List.zipWith (op_sub) l0 l1).take j) ((op_sub) (rd l0 j) (rd l1 j)) [.int .u32 ((op_sub) (rd l0 j) (rd l1 j))] (fun _ => True) (fun _ => False) rfl rfl ?aP (fun _ hk => hk.elim) ?aF ?aO ?aB ?aS ?aL ?_; (case aP => exact rfl); (case aB => exact HB.out); (case aF => exact (fun _ _ => trivial)); (case aO => exact HO.out); (case aS => exact below_size HB.out); (case aL => omega); intro v124 w12 ho hb hg hat; rw [HZ.out] at ho; have HO2 := Aside0.mk ho; have HB2 := Aside0.mk hb; clear ho hb hg hat))
      go_roundw
      case rel => exact ⟨j + 1, by go_num, by omega, HO2, HB2⟩
      case measure => simp [intOf]; omega
    · have hje : j = l0.length := by omega
      have HJ := Lib.hid hje
      clear hje
      go_wp2
      go_ret2
      refine ⟨_, rfl, ?_, HB.out⟩
      have h := HO.out
      rw [HJ.out, List.take_of_length_le (by rw [List.length_zipWith]; omega)] at h
      exact h
end Go.Proofs.YtihcolmkfmdbaaaDoor.Bo
