/- The chapter's bytes and relocation are so. -/
import Derived.Test.YtdhkmaiidbomdafZRela

namespace Go.Proofs.Ytdhkmaiidbomdaf.Z
open Go.RowKit Go.Proofs.Ytdhkmaiidbomdaf.P Go.Proofs.YtdhkmaiidbomdafW.PrintWords Go.Proofs.YtdhkmaiidbomdafW.PrintLast
end Go.Proofs.Ytdhkmaiidbomdaf.Z
