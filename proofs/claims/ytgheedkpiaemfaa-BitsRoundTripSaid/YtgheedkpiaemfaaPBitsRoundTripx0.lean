-- Written by a program of this session (wip/tools/pr.py), which calls the kit's print with changes of its own.
import Derived.Test.YtgheedkpiaemfaaProg
import Derived.Below
import Derived.Deep.Draws
import Derived.Deep.AppendLies
import Derived.Maps.AppendAt
import Derived.OwnWalk
import Derived.Laws.BytesArg
import Derived.Laws.MakeOwn
import Derived.Laws.OwnMore
import Derived.Deep.OwnRows
import Derived.Tactics
import Derived.Lib.ConvBytes
import Derived.Laws.Slices
import Derived.WalkKit
import Derived.KernelRfl
import Derived.RowKit3
import Derived.Deep.LoopGhost
import Derived.Deep.QuietTactic
import Derived.BigQuiet
import Derived.WideLaws
import Derived.Deep.DeepCutAuto
import Derived.Deep.CutBlock
import Derived.Deep.RegionHeld3
import Derived.Laws.Rows
import Derived.Lib.AppendStr
import Derived.ArgAppend
import Derived.Laws.IdiomCopy
import Derived.OrdersHeld
import Derived.Laws.BitsLemmas
import Derived.RowKit
import Derived.Test.YtgheedkpiaemfaaMakeC
import Derived.Test.YtgheedkpiaemfaaWWords
import Derived.Test.YtgheedkpiaemfaaWLast
import Derived.Test.YtgheedkpiaemfaaWTab
import Derived.Test.YtgheedkpiaemfaaWFour
import Derived.Test.YtgheedkpiaemfaaWQPut
import Derived.Test.YtgheedkpiaemfaaWApart
import Derived.Test.YtgheedkpiaemfaaWArr
import Derived.Test.YtgheedkpiaemfaaWZeros
import Derived.Test.YtgheedkpiaemfaaWFoot
import Derived.Test.YtgheedkpiaemfaaWKept
import Derived.Test.YtgheedkpiaemfaaWShare
import Derived.Test.YtgheedkpiaemfaaWN
import Derived.Test.YtgheedkpiaemfaaWFootNe
import Derived.Test.YtgheedkpiaemfaaWAt
import Derived.Test.YtgheedkpiaemfaaWEqStruct
import Derived.Test.YtgheedkpiaemfaaWRepsOne
import Derived.Test.YtgheedkpiaemfaaWInv
import Derived.Test.YtgheedkpiaemfaaWInvWords
import Derived.Test.YtgheedkpiaemfaaWGuard
import Derived.Test.YtgheedkpiaemfaaWNEv
import Derived.Test.YtgheedkpiaemfaaWMore
namespace Go.Proofs.Ytgheedkpiaemfaa.PBitsRoundTrip
open Go.RowKit Go.Proofs.YtgheedkpiaemfaaW.PrintWords Go.Proofs.YtgheedkpiaemfaaW.PrintLast Go.Proofs.YtgheedkpiaemfaaW.PrintMore
attribute [local go_sem] max2_int min2_int max_two min_two max_three min_three max_four min_four   -- for this text's walks alone
set_option linter.unusedVariables false
set_option linter.unusedSimpArgs false



def errW : Option Int → Value
  | none => .nilIface
  | some c => .iface 0 (.int .i64 c)
theorem errW_none : errW none = .nilIface := rfl
theorem errW_some (c : Int) : errW (some c) = .iface 0 (.int .i64 c) := rfl

theorem info5 : (Try.prog.info? 5).map (fun i => (i.zero, i.size, i.bytes)) = some (some (.int .u8 0), 1, 1) := by kernel_rfl
-- the values' own types

end Go.Proofs.Ytgheedkpiaemfaa.PBitsRoundTrip
