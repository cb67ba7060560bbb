/- RelaNames: the limits, types and errors have their numbers; examples. -/
import Derived.Test.YtomabnfeipobnaaPx42
namespace Go.Proofs.Ytomabnfeipobnaa.Pure
open Go.RowKit Go.Proofs.Ytomabnfeipobnaa.P Go.Proofs.YtomabnfeipobnaaW.PrintWords Go.Proofs.YtomabnfeipobnaaW.PrintLast
theorem RelaNames : quoinlaw11_RelaNames.Pure := ⟨80, by decide +kernel⟩
end Go.Proofs.Ytomabnfeipobnaa.Pure
