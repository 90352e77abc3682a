-- The print's words as far as this seat's texts need them: cut by a program of this session (wip/tools/trim.py).
import Derived.Test.YtbggkaofkohecaaVInv
import Derived.Test.YtbggkaofkohecaaVFootNe
namespace Go.Proofs.YtbggkaofkohecaaW.PrintWords
open Go.RowKit
end Go.Proofs.YtbggkaofkohecaaW.PrintWords
namespace Go.Proofs.YtbggkaofkohecaaW.PrintLast
end Go.Proofs.YtbggkaofkohecaaW.PrintLast

