-- The print's words as far as this seat's texts need them: cut by a program of this session (wip/tools/trim.py).
import Derived.Test.YtjgfhccibljkbaaVTab
namespace Go.Proofs.YtjgfhccibljkbaaW.PrintLast
end Go.Proofs.YtjgfhccibljkbaaW.PrintLast

