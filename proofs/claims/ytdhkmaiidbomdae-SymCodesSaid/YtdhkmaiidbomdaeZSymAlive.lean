/- The chapter's bytes are what is written. -/
import Derived.Test.YtdhkmaiidbomdaeZSym

namespace Go.Proofs.Ytdhkmaiidbomdae.Z
open Go.RowKit Go.Proofs.Ytdhkmaiidbomdae.P Go.Proofs.YtdhkmaiidbomdaeW.PrintWords Go.Proofs.YtdhkmaiidbomdaeW.PrintLast
set_option linter.unusedSimpArgs false
set_option linter.unusedVariables false
end Go.Proofs.Ytdhkmaiidbomdae.Z
