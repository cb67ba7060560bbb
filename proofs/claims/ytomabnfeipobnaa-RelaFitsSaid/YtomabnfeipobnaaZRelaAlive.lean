/- The chapter's bytes and relocation are so. -/
import Derived.Test.YtomabnfeipobnaaZRela
import Derived.Test.YtomabnfeipobnaaPx13
namespace Go.Proofs.Ytomabnfeipobnaa.Z
open Go.RowKit Go.Proofs.Ytomabnfeipobnaa.P Go.Proofs.YtomabnfeipobnaaW.PrintWords Go.Proofs.YtomabnfeipobnaaW.PrintLast
theorem alive11_eq {k : Nat} (hk : 40 ≤ k) : quoinlaw11_alive.f k = some true := mono_some (g := fun k => quoinlaw11_alive.f k) (fun k => quoinlaw11_alive.mono k) (by decide +kernel) hk
end Go.Proofs.Ytomabnfeipobnaa.Z
