/- The chapter's jump is so. -/
import Derived.Test.YtoljgjnbkejhaaaZField
import Derived.Test.YtoljgjnbkejhaaaPx4
namespace Go.Proofs.Ytoljgjnbkejhaaa.Z
open Go.RowKit Go.Proofs.Ytoljgjnbkejhaaa.P Go.Proofs.YtoljgjnbkejhaaaW.PrintWords Go.Proofs.YtoljgjnbkejhaaaW.PrintLast
theorem alive26_eq {k : Nat} (hk : 40 ≤ k) : quoinlaw26_alive.f k = some true := mono_some (g := fun k => quoinlaw26_alive.f k) (fun k => quoinlaw26_alive.mono k) (by decide +kernel) hk
end Go.Proofs.Ytoljgjnbkejhaaa.Z
