-- Written by a changed copy of the kit's print (wip/tools/patch_print.py), out of the translation. Not trusted: Lean checks it.
import Derived.Test.YtfomajippdcaoaaDoorProg
import Derived.Below
import Derived.Deep.Draws
import Derived.Deep.AppendLies
import Derived.Maps.AppendAt
import Derived.OwnWalk
import Derived.Laws.BytesArg
import Derived.Laws.MakeOwn
import Derived.Laws.OwnMore
import Derived.Deep.OwnRows
import Derived.Tactics
import Derived.Lib.ConvBytes
import Derived.Laws.Slices
import Derived.WalkKit
import Derived.KernelRfl
import Derived.RowKit3
import Derived.Deep.LoopGhost
import Derived.Deep.QuietTactic
import Derived.BigQuiet
import Derived.WideLaws
import Derived.Deep.DeepCutAuto
import Derived.Deep.CutBlock
import Derived.Deep.RegionHeld3
import Derived.Laws.Rows
import Derived.Lib.AppendStr
import Derived.ArgAppend
import Derived.Laws.IdiomCopy
import Derived.OrdersHeld
import Derived.Laws.BitsLemmas
import Derived.RowKit
import Derived.Test.YtfomajippdcaoaaDoorWWords
import Derived.Test.YtfomajippdcaoaaDoorWLast
import Derived.Test.YtfomajippdcaoaaDoorWTab
import Derived.Test.YtfomajippdcaoaaDoorWFour
import Derived.Test.YtfomajippdcaoaaDoorWQPut
import Derived.Test.YtfomajippdcaoaaDoorWApart
import Derived.Test.YtfomajippdcaoaaDoorWArr
import Derived.Test.YtfomajippdcaoaaDoorWZeros
import Derived.Test.YtfomajippdcaoaaDoorWFoot
import Derived.Test.YtfomajippdcaoaaDoorWKept
import Derived.Test.YtfomajippdcaoaaDoorWShare
import Derived.Test.YtfomajippdcaoaaDoorWN
import Derived.Test.YtfomajippdcaoaaDoorWFootNe
import Derived.Test.YtfomajippdcaoaaDoorWAt
import Derived.Test.YtfomajippdcaoaaDoorWEqStruct
import Derived.Test.YtfomajippdcaoaaDoorWRepsOne
import Derived.Test.YtfomajippdcaoaaDoorWInv
import Derived.Test.YtfomajippdcaoaaDoorWInvWords
import Derived.Test.YtfomajippdcaoaaDoorWGuard
import Derived.Test.YtfomajippdcaoaaDoorWNEv
import Derived.Test.YtfomajippdcaoaaDoorWMore
import Derived.Test.YtfomajippdcaoaaDoorAs
namespace Go.Proofs.YtfomajippdcaoaaDoor.PSet
open Go.RowKit Go.Proofs.YtfomajippdcaoaaDoorW.PrintWords Go.Proofs.YtfomajippdcaoaaDoorW.PrintLast Go.Proofs.YtfomajippdcaoaaDoorW.PrintMore
attribute [local go_sem] max2_int min2_int max_two min_two max_three min_three max_four min_four   -- for this text's walks alone
set_option linter.unusedVariables false
set_option linter.unusedSimpArgs false



def errW : Option Int → Value
  | none => .nilIface
  | some c => .iface 75 (.int .i64 c)
theorem errW_none : errW none = .nilIface := rfl
theorem errW_some (c : Int) : errW (some c) = .iface 75 (.int .i64 c) := rfl

theorem info3 : (Tryd.prog.info? 3).map (fun i => (i.zero, i.size, i.bytes)) = some (some (.int .i64 0), 1, 8) := by kernel_rfl
-- the values' own types

end Go.Proofs.YtfomajippdcaoaaDoor.PSet
