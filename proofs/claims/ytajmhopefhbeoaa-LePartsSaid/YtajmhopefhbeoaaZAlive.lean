/- The statements' own first example, of layer 7, is so. -/
import Derived.Test.YtajmhopefhbeoaaZLe
import Derived.Test.YtajmhopefhbeoaaPx1
namespace Go.Proofs.Ytajmhopefhbeoaa.Pure
open Go.RowKit Go.Proofs.Ytajmhopefhbeoaa.P Go.Proofs.YtajmhopefhbeoaaW.PrintWords Go.Proofs.YtajmhopefhbeoaaW.PrintLast Go.Proofs.Ytajmhopefhbeoaa.Z
theorem alive_eq (k : Nat) (hk : 10 ≤ k) : quoinlaw07_alive.f k = some true := by
  unfold quoinlaw07_alive.f
  rw [put_eq _ _ _ hk]
  have h1 : putAns 258 2 = ([2, 1], 0) := by decide +kernel
  rw [h1]
  simp only [Option.bind_some]
  rw [get_eq _ _ _ _ hk (by unfold AllB; decide) (by decide) (by decide)]
  have h2 : getAns [2, 1] 0 2 = (258, 0) := by decide +kernel
  rw [h2]
  decide +kernel
end Go.Proofs.Ytajmhopefhbeoaa.Pure
