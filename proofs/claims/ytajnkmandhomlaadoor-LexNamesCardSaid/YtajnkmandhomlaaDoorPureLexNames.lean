/- The chapter's examples. -/
import Derived.Test.YtajnkmandhomlaaDoorPx14
namespace Go.Proofs.YtajnkmandhomlaaDoor.Pure
open Go.RowKit Go.Proofs.YtajnkmandhomlaaDoor.P Go.Proofs.YtajnkmandhomlaaDoorW.PrintWords Go.Proofs.YtajnkmandhomlaaDoorW.PrintLast

theorem LexNames : quoinlaw15_LexNames.Pure := ⟨40, by decide +kernel⟩
end Go.Proofs.YtajnkmandhomlaaDoor.Pure
