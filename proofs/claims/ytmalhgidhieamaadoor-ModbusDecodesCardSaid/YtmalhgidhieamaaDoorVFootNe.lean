-- The print's words as far as this seat's texts need them: cut by a program of this session (wip/tools/trim.py).
import Derived.Test.YtmalhgidhieamaaDoorVN
namespace Go.Proofs.YtmalhgidhieamaaDoorW.PrintWords
open Go.RowKit
namespace Kd
end Kd
end Go.Proofs.YtmalhgidhieamaaDoorW.PrintWords

