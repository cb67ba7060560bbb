/- The chapter's head and kind are so. -/
import Derived.Test.YtdhkmaiidbomdacZHead
import Derived.Test.YtdhkmaiidbomdacZSect
import Derived.Test.YtdhkmaiidbomdacPx2
namespace Go.Proofs.Ytdhkmaiidbomdac.Z
open Go.RowKit Go.Proofs.Ytdhkmaiidbomdac.P Go.Proofs.YtdhkmaiidbomdacW.PrintWords Go.Proofs.YtdhkmaiidbomdacW.PrintLast
set_option linter.unusedSimpArgs false
set_option linter.unusedVariables false
theorem alive9_eq (k : Nat) (hk : 40 ≤ k) : quoinlaw09_alive.f k = some true := by
  unfold quoinlaw09_alive.f
  rw [headwrite_eq _ _ _ _ _ _ _ _ _ _ k (by omega), kind_eq _ (by decide)]
  have h1 : kindAns (⟨#[46, 100, 97, 116, 97, 46, 120]⟩ : ByteArray).data.toList = (3, 0) := by decide +kernel
  have h2 : (headAns (headPs 0 0 0 0 0 1 0 0 0 0)).2 = 0 ∧ (headAns (headPs 0 0 0 0 0 1 0 0 0 0)).1.length = 64 ∧ rd (headAns (headPs 0 0 0 0 0 1 0 0 0 0)).1 32 = 1 := by decide +kernel
  rw [h1]
  simp only [Option.bind_some, h2.1, h2.2.1, h2.2.2]
  decide
end Go.Proofs.Ytdhkmaiidbomdac.Z
