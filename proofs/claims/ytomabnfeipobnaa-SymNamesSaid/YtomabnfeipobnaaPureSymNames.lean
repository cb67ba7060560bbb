/- SymNames: the chapter's examples; there is nothing to choose. -/
import Derived.Test.YtomabnfeipobnaaPx28
namespace Go.Proofs.Ytomabnfeipobnaa.Pure
open Go.RowKit Go.Proofs.Ytomabnfeipobnaa.P
theorem SymNames : quoinlaw10_SymNames.Pure := ⟨80, by decide +kernel⟩
end Go.Proofs.Ytomabnfeipobnaa.Pure
