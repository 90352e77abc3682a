-- The print's words as far as this seat's texts need them: cut by a program of this session (wip/tools/trim.py).
import Derived.Test.YtgcifmaefoeobaaVInv
import Derived.Test.YtgcifmaefoeobaaVFootNe
namespace Go.Proofs.YtgcifmaefoeobaaW.PrintWords
open Go.RowKit
end Go.Proofs.YtgcifmaefoeobaaW.PrintWords
namespace Go.Proofs.YtgcifmaefoeobaaW.PrintLast
end Go.Proofs.YtgcifmaefoeobaaW.PrintLast

