-- Written by a changed copy of the kit's print (wip/tools/patch_print.py), out of the translation. Not trusted: Lean checks it.
import Derived.Test.YtbfgppecpkfcnaaDoorProg
import Derived.Below
import Derived.Deep.Draws
import Derived.Deep.AppendLies
import Derived.Maps.AppendAt
import Derived.OwnWalk
import Derived.Laws.BytesArg
import Derived.Laws.MakeOwn
import Derived.Laws.OwnMore
import Derived.Deep.OwnRows
import Derived.Tactics
import Derived.Lib.ConvBytes
import Derived.Laws.Slices
import Derived.WalkKit
import Derived.KernelRfl
import Derived.RowKit3
import Derived.Deep.LoopGhost
import Derived.Deep.QuietTactic
import Derived.BigQuiet
import Derived.WideLaws
import Derived.Deep.DeepCutAuto
import Derived.Deep.CutBlock
import Derived.Deep.RegionHeld3
import Derived.Laws.Rows
import Derived.Lib.AppendStr
import Derived.ArgAppend
import Derived.Laws.IdiomCopy
import Derived.OrdersHeld
import Derived.Laws.BitsLemmas
import Derived.RowKit
import Derived.Test.YtbfgppecpkfcnaaDoorWWords
import Derived.Test.YtbfgppecpkfcnaaDoorWLast
import Derived.Test.YtbfgppecpkfcnaaDoorWTab
import Derived.Test.YtbfgppecpkfcnaaDoorWFour
import Derived.Test.YtbfgppecpkfcnaaDoorWQPut
import Derived.Test.YtbfgppecpkfcnaaDoorWApart
import Derived.Test.YtbfgppecpkfcnaaDoorWArr
import Derived.Test.YtbfgppecpkfcnaaDoorWZeros
import Derived.Test.YtbfgppecpkfcnaaDoorWFoot
import Derived.Test.YtbfgppecpkfcnaaDoorWKept
import Derived.Test.YtbfgppecpkfcnaaDoorWShare
import Derived.Test.YtbfgppecpkfcnaaDoorWN
import Derived.Test.YtbfgppecpkfcnaaDoorWFootNe
import Derived.Test.YtbfgppecpkfcnaaDoorWAt
import Derived.Test.YtbfgppecpkfcnaaDoorWEqStruct
import Derived.Test.YtbfgppecpkfcnaaDoorWRepsOne
import Derived.Test.YtbfgppecpkfcnaaDoorWInv
import Derived.Test.YtbfgppecpkfcnaaDoorWInvWords
import Derived.Test.YtbfgppecpkfcnaaDoorWGuard
import Derived.Test.YtbfgppecpkfcnaaDoorWNEv
import Derived.Test.YtbfgppecpkfcnaaDoorWMore
import Derived.Test.YtbfgppecpkfcnaaDoorAs
namespace Go.Proofs.YtbfgppecpkfcnaaDoor.PFp
open Go.RowKit Go.Proofs.YtbfgppecpkfcnaaDoorW.PrintWords Go.Proofs.YtbfgppecpkfcnaaDoorW.PrintLast Go.Proofs.YtbfgppecpkfcnaaDoorW.PrintMore
attribute [local go_sem] max2_int min2_int max_two min_two max_three min_three max_four min_four   -- for this text's walks alone
set_option linter.unusedVariables false
set_option linter.unusedSimpArgs false



def errW : Option Int → Value
  | none => .nilIface
  | some c => .iface 96 (.int .i64 c)
theorem errW_none : errW none = .nilIface := rfl
theorem errW_some (c : Int) : errW (some c) = .iface 96 (.int .i64 c) := rfl

-- the values' own types

end Go.Proofs.YtbfgppecpkfcnaaDoor.PFp
