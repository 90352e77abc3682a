-- The print's words as far as this seat's texts need them: cut by a program of this session (wip/tools/trim.py).
import Derived.Test.YtpgeomgaphodkaaVInv
import Derived.Test.YtpgeomgaphodkaaVFootNe
namespace Go.Proofs.YtpgeomgaphodkaaW.PrintWords
open Go.RowKit
end Go.Proofs.YtpgeomgaphodkaaW.PrintWords
namespace Go.Proofs.YtpgeomgaphodkaaW.PrintLast
end Go.Proofs.YtpgeomgaphodkaaW.PrintLast

