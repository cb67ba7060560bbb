/- ApplyNames: the errors have their numbers; examples. -/
import Derived.Test.YtoljgjnbkejhaaaPx6
namespace Go.Proofs.Ytoljgjnbkejhaaa.Pure
open Go.RowKit Go.Proofs.Ytoljgjnbkejhaaa.P Go.Proofs.YtoljgjnbkejhaaaW.PrintWords Go.Proofs.YtoljgjnbkejhaaaW.PrintLast
theorem ApplyNames : quoinlaw26_ApplyNames.Pure := ⟨80, by decide +kernel⟩
end Go.Proofs.Ytoljgjnbkejhaaa.Pure
