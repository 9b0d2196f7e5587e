/-
  The watch's own functions (stand), walked: what each answers, and what becomes of the watch.
-/
import Derived.Test.YtfomajippdcaoaaDoorProg
import Derived.Test.YtfomajippdcaoaaDoorAs
import Derived.Test.YtfomajippdcaoaaDoorWWords
import Derived.WalkKit
import Derived.KernelRfl
import Derived.LaidEql
import Derived.Deep.Draws
import Derived.Deep.QuietTactic
import Derived.BigQuiet
import Derived.Below
import Derived.Lib.Hide
import Derived.LoopTactic
import Derived.Outline
import Derived.OwnWalk
import Derived.Deep.LoopGhost
namespace Go.Proofs.YtfomajippdcaoaaDoor.St
open Go.RowKit Go.Proofs.YtfomajippdcaoaaDoorW.PrintWords

/-- a watch in memory -/
def WB (sp li st si : Int) (go : Bool) : Obj := .cells #[.int .i64 sp, .int .i64 li, .int .i64 st, .int .i64 si, .bool go] 77 (0, 0)

theorem new_ok (sp li : Int) (w : World) (h1 : 0 ≤ sp) (h2 : sp ≤ 2) (h3 : 1 ≤ li) (h4 : li ≤ 1000) :
    Calls Tryd.prog 9 #[.int .i64 sp, .int .i64 li] w fun x w' => x = .returned (.tuple #[.pointer (some ⟨w.heap.size, 0, none⟩), .nilIface]) ∧ w' = w.alloc (WB sp li 0 0 false) := by
  go_enter Tryd.func9, Tryd.ntmps9
  go_wp2
  go_ret2
  exact ⟨rfl, rfl⟩
theorem new_bad (li : Int) (w : World) :
    Calls Tryd.prog 9 #[.int .i64 3, .int .i64 li] w fun x w' => x = .returned (.tuple #[.pointer none, .iface 75 (.int .i64 1)]) ∧ w = w' := by
  go_enter Tryd.func9, Tryd.ntmps9
  go_wp2
  go_ret2
  exact ⟨rfl, rfl⟩

theorem gone_is (g : Nat) (go : Bool) (w : World) (c4 : w.cell? ⟨g, 4, none⟩ = some (.bool go)) : Calls Tryd.prog 13 #[.pointer (some ⟨g, 0, none⟩)] w fun x w' => x = .returned (.bool go) ∧ w = w' := by
  go_enter Tryd.func13, Tryd.ntmps13
  go_wp2
  go_ret
  exact ⟨rfl, rfl⟩
theorem step_is (g : Nat) (st : Int) (w : World) (c2 : w.cell? ⟨g, 2, none⟩ = some (.int .i64 st)) : Calls Tryd.prog 12 #[.pointer (some ⟨g, 0, none⟩)] w fun x w' => x = .returned (.int .i64 st) ∧ w = w' := by
  go_enter Tryd.func12, Tryd.ntmps12
  go_wp2
  go_ret
  exact ⟨rfl, rfl⟩

theorem heard_gone (g : Nat) (a : Int) (w : World) (c4 : w.cell? ⟨g, 4, none⟩ = some (.bool true)) :
    Calls Tryd.prog 11 #[.pointer (some ⟨g, 0, none⟩), .int .i64 a] w fun x w' => x = .returned (.bool false) ∧ w = w' := by
  go_enter Tryd.func11, Tryd.ntmps11
  go_wp2_with (go_at_call 13; refine (gone_is _ true _ c4).mono ?_; rintro x w' ⟨rfl, rfl⟩)
  go_ret
  exact ⟨rfl, rfl⟩
theorem heard_other (g : Nat) (a st : Int) (w : World) (c2 : w.cell? ⟨g, 2, none⟩ = some (.int .i64 st)) (c4 : w.cell? ⟨g, 4, none⟩ = some (.bool false)) (hn : (a != st) = true) :
    Calls Tryd.prog 11 #[.pointer (some ⟨g, 0, none⟩), .int .i64 a] w fun x w' => x = .returned (.bool false) ∧ w = w' := by
  go_enter Tryd.func11, Tryd.ntmps11
  go_wp2_with (go_at_call 13; refine (gone_is _ false _ c4).mono ?_; rintro x w' ⟨rfl, rfl⟩)
  go_ret
  exact ⟨rfl, rfl⟩
theorem heard_it (g : Nat) (st si : Int) (w : World) (c2 : w.cell? ⟨g, 2, none⟩ = some (.int .i64 st)) (c3 : w.cell? ⟨g, 3, none⟩ = some (.int .i64 si)) (f3 : w.frozen? ⟨g, 3, none⟩ = false) (c4 : w.cell? ⟨g, 4, none⟩ = some (.bool false)) :
    Calls Tryd.prog 11 #[.pointer (some ⟨g, 0, none⟩), .int .i64 st] w fun x w' => x = .returned (.bool true) ∧ w' = w.setCell ⟨g, 3, none⟩ (.int .i64 0) := by
  go_enter Tryd.func11, Tryd.ntmps11
  go_wp2_with (go_at_call 13; refine (gone_is _ false _ c4).mono ?_; rintro x w' ⟨rfl, rfl⟩)
  go_ret
  exact ⟨rfl, rfl⟩

theorem tick_gone (g : Nat) (w : World) (c4 : w.cell? ⟨g, 4, none⟩ = some (.bool true)) :
    Calls Tryd.prog 10 #[.pointer (some ⟨g, 0, none⟩)] w fun x w' => x = .returned (.int .i64 0) ∧ w = w' := by
  go_enter Tryd.func10, Tryd.ntmps10
  go_wp2_with (go_at_call 13; refine (gone_is _ true _ c4).mono ?_; rintro x w' ⟨rfl, rfl⟩)
  go_ret
  exact ⟨rfl, rfl⟩

def Cs (g : Nat) (w : World) (sp li st si : Int) : Prop := w.cell? ⟨g, 0, none⟩ = some (.int .i64 sp) ∧ w.cell? ⟨g, 1, none⟩ = some (.int .i64 li) ∧ w.cell? ⟨g, 2, none⟩ = some (.int .i64 st) ∧ w.cell? ⟨g, 3, none⟩ = some (.int .i64 si) ∧ w.cell? ⟨g, 4, none⟩ = some (.bool false) ∧ w.frozen? ⟨g, 2, none⟩ = false ∧ w.frozen? ⟨g, 3, none⟩ = false ∧ w.frozen? ⟨g, 4, none⟩ = false

theorem tick_less (g : Nat) (sp li st si : Int) (w : World) (hc : Cs g w sp li st si) (h1 : 0 ≤ si) (h2 : si + 1 < li) (h3 : li ≤ 1000) :
    Calls Tryd.prog 10 #[.pointer (some ⟨g, 0, none⟩)] w fun x w' => x = .returned (.int .i64 0) ∧ ∃ m, w' = (w.setCell ⟨g, 3, none⟩ (.int .i64 (si + 1))).drewN m := by
  obtain ⟨c0, c1, c2, c3, c4, f2, f3, f4⟩ := hc
  go_enter Tryd.func10, Tryd.ntmps10
  go_wp2_with (go_at_call 13; refine (gone_is _ false _ c4).mono ?_; rintro x w' ⟨rfl, rfl⟩)
  go_quiet (fail)
  go_wp2
  go_ret
  exact ⟨rfl, _, rfl⟩
theorem tick_next (g : Nat) (sp li st si : Int) (w : World) (hc : Cs g w sp li st si) (h1 : 0 ≤ si) (h2 : li ≤ si + 1) (h3 : si ≤ 1000) (h4 : 0 ≤ st) (h5 : st < sp) (h6 : sp ≤ 2) :
    Calls Tryd.prog 10 #[.pointer (some ⟨g, 0, none⟩)] w fun x w' => x = .returned (.int .i64 1) ∧ ∃ m, w' = (((w.setCell ⟨g, 3, none⟩ (.int .i64 (si + 1))).setCell ⟨g, 2, none⟩ (.int .i64 (st + 1))).setCell ⟨g, 3, none⟩ (.int .i64 0)).drewN m := by
  obtain ⟨c0, c1, c2, c3, c4, f2, f3, f4⟩ := hc
  go_enter Tryd.func10, Tryd.ntmps10
  go_wp2_with (go_at_call 13; refine (gone_is _ false _ c4).mono ?_; rintro x w' ⟨rfl, rfl⟩)
  go_quiet (fail)
  go_wp2
  go_quiet (fail)
  go_wp2
  go_ret
  exact ⟨rfl, _, rfl⟩
theorem tick_nobody (g : Nat) (sp li st si : Int) (w : World) (hc : Cs g w sp li st si) (h1 : 0 ≤ si) (h2 : li ≤ si + 1) (h3 : si ≤ 1000) (h5 : sp ≤ st) :
    Calls Tryd.prog 10 #[.pointer (some ⟨g, 0, none⟩)] w fun x w' => x = .returned (.int .i64 2) ∧ ∃ m, w' = ((w.setCell ⟨g, 3, none⟩ (.int .i64 (si + 1))).setCell ⟨g, 4, none⟩ (.bool true)).drewN m := by
  obtain ⟨c0, c1, c2, c3, c4, f2, f3, f4⟩ := hc
  go_enter Tryd.func10, Tryd.ntmps10
  go_wp2_with (go_at_call 13; refine (gone_is _ false _ c4).mono ?_; rintro x w' ⟨rfl, rfl⟩)
  go_quiet (fail)
  go_wp2
  go_quiet (fail)
  go_wp2
  go_ret
  exact ⟨rfl, _, rfl⟩
end Go.Proofs.YtfomajippdcaoaaDoor.St
