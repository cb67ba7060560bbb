/- The chapter's examples. -/
import Derived.Test.YtgihgmniijhfoaaDoorPx20
namespace Go.Proofs.YtgihgmniijhfoaaDoor.Pure
open Go.RowKit Go.Proofs.YtgihgmniijhfoaaDoor.P Go.Proofs.YtgihgmniijhfoaaDoorW.PrintWords Go.Proofs.YtgihgmniijhfoaaDoorW.PrintLast

theorem ExprNames : quoinlaw16_ExprNames.Pure := ⟨40, by decide +kernel⟩
end Go.Proofs.YtgihgmniijhfoaaDoor.Pure
