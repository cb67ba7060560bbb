/- LeNames: the errors of layer 7 have their numbers, and the chapter's examples are so. -/
import Derived.Test.YtajmhopefhbeoaaPx4
namespace Go.Proofs.Ytajmhopefhbeoaa.Pure
open Go.RowKit Go.Proofs.Ytajmhopefhbeoaa.P Go.Proofs.YtajmhopefhbeoaaW.PrintWords Go.Proofs.YtajmhopefhbeoaaW.PrintLast
theorem LeNames : quoinlaw07_LeNames.Pure := ⟨60, by decide +kernel⟩
end Go.Proofs.Ytajmhopefhbeoaa.Pure
