/- SectNames: the limits and errors have their numbers; examples. -/
import Derived.Test.YtomabnfeipobnaaPx27
namespace Go.Proofs.Ytomabnfeipobnaa.Pure
open Go.RowKit Go.Proofs.Ytomabnfeipobnaa.P Go.Proofs.YtomabnfeipobnaaW.PrintWords Go.Proofs.YtomabnfeipobnaaW.PrintLast
set_option linter.unusedSimpArgs false
set_option linter.unusedVariables false
theorem SectNames : quoinlaw09_SectNames.Pure := ⟨80, by decide +kernel⟩
end Go.Proofs.Ytomabnfeipobnaa.Pure
