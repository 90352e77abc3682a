-- The print's words as far as this seat's texts need them: cut by a program of this session (wip/tools/trim.py).
import Derived.Test.YtmalhgidhieamaaDoorVTab
namespace Go.Proofs.YtmalhgidhieamaaDoorW.PrintLast
def up (b : Nat → Bool) (i : Nat) : Nat → Bool := fun j => if j = i then true else b j
end Go.Proofs.YtmalhgidhieamaaDoorW.PrintLast

