-- The print's words as far as this seat's texts need them: cut by a program of this session (wip/tools/trim.py).
import Derived.Test.YtjgfhccibljkbaaVInv
import Derived.Test.YtjgfhccibljkbaaVFootNe
namespace Go.Proofs.YtjgfhccibljkbaaW.PrintWords
open Go.RowKit
end Go.Proofs.YtjgfhccibljkbaaW.PrintWords
namespace Go.Proofs.YtjgfhccibljkbaaW.PrintLast
end Go.Proofs.YtjgfhccibljkbaaW.PrintLast

