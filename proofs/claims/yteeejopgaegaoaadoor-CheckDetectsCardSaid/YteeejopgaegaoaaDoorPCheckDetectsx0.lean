-- Written by a program of this session (wip/tools/pr.py), which calls the kit's print with changes of its own.
import Derived.Test.YteeejopgaegaoaaDoorProg
import Derived.Below
import Derived.Deep.Draws
import Derived.Deep.AppendLies
import Derived.Maps.AppendAt
import Derived.OwnWalk
import Derived.Laws.BytesArg
import Derived.Laws.MakeOwn
import Derived.Laws.OwnMore
import Derived.Deep.OwnRows
import Derived.Tactics
import Derived.Lib.ConvBytes
import Derived.Laws.Slices
import Derived.WalkKit
import Derived.KernelRfl
import Derived.RowKit3
import Derived.Deep.LoopGhost
import Derived.Deep.QuietTactic
import Derived.BigQuiet
import Derived.WideLaws
import Derived.Deep.DeepCutAuto
import Derived.Deep.CutBlock
import Derived.Deep.RegionHeld3
import Derived.Laws.Rows
import Derived.Lib.AppendStr
import Derived.ArgAppend
import Derived.Laws.IdiomCopy
import Derived.OrdersHeld
import Derived.Laws.BitsLemmas
import Derived.RowKit
import Derived.Test.YteeejopgaegaoaaDoorMakeC
import Derived.Test.YteeejopgaegaoaaDoorRowB
import Derived.Test.YteeejopgaegaoaaDoorOpenArgs
import Derived.Test.YteeejopgaegaoaaDoorFar
import Derived.Test.YteeejopgaegaoaaDoorShort
import Derived.Test.YteeejopgaegaoaaDoorTabCheck
import Derived.Test.YteeejopgaegaoaaDoorWWords
import Derived.Test.YteeejopgaegaoaaDoorWLast
import Derived.Test.YteeejopgaegaoaaDoorWTab
import Derived.Test.YteeejopgaegaoaaDoorWFour
import Derived.Test.YteeejopgaegaoaaDoorWQPut
import Derived.Test.YteeejopgaegaoaaDoorWApart
import Derived.Test.YteeejopgaegaoaaDoorWArr
import Derived.Test.YteeejopgaegaoaaDoorWZeros
import Derived.Test.YteeejopgaegaoaaDoorWFoot
import Derived.Test.YteeejopgaegaoaaDoorWKept
import Derived.Test.YteeejopgaegaoaaDoorWShare
import Derived.Test.YteeejopgaegaoaaDoorWN
import Derived.Test.YteeejopgaegaoaaDoorWFootNe
import Derived.Test.YteeejopgaegaoaaDoorWAt
import Derived.Test.YteeejopgaegaoaaDoorWEqStruct
import Derived.Test.YteeejopgaegaoaaDoorWRepsOne
import Derived.Test.YteeejopgaegaoaaDoorWInv
import Derived.Test.YteeejopgaegaoaaDoorWInvWords
import Derived.Test.YteeejopgaegaoaaDoorWGuard
import Derived.Test.YteeejopgaegaoaaDoorWNEv
import Derived.Test.YteeejopgaegaoaaDoorWMore
namespace Go.Proofs.YteeejopgaegaoaaDoor.PCheckDetects
open Go.RowKit Go.Proofs.YteeejopgaegaoaaDoorW.PrintWords Go.Proofs.YteeejopgaegaoaaDoorW.PrintLast Go.Proofs.YteeejopgaegaoaaDoorW.PrintMore
attribute [local go_sem] max2_int min2_int max_two min_two max_three min_three max_four min_four   -- for this text's walks alone
set_option linter.unusedVariables false
set_option linter.unusedSimpArgs false



def errW : Option Int → Value
  | none => .nilIface
  | some c => .iface 0 (.int .i64 c)
theorem errW_none : errW none = .nilIface := rfl
theorem errW_some (c : Int) : errW (some c) = .iface 0 (.int .i64 c) := rfl

-- the values' own types

end Go.Proofs.YteeejopgaegaoaaDoor.PCheckDetects
