/- The chapter's bytes are what is written. -/
import Derived.Test.YtomabnfeipobnaaZSym
import Derived.Test.YtomabnfeipobnaaPx11
namespace Go.Proofs.Ytomabnfeipobnaa.Z
open Go.RowKit Go.Proofs.Ytomabnfeipobnaa.P Go.Proofs.YtomabnfeipobnaaW.PrintWords Go.Proofs.YtomabnfeipobnaaW.PrintLast
set_option linter.unusedSimpArgs false
set_option linter.unusedVariables false
theorem alive_eq (k : Nat) (hk : 40 ≤ k) : quoinlaw10_alive.f k = some true := by
  unfold quoinlaw10_alive.f
  rw [symwrite_eq _ _ _ _ _ _ _ (by decide) k (by have : (⟨#[102]⟩ : ByteArray).size = 1 := rfl; omega)]
  have h1 : symWriteAns (⟨#[102]⟩ : ByteArray) 2 true (-1) (-1) 0 7 = ([7, 0, 0, 0, 32, 2, 241, 255, 255, 255, 255, 255, 255, 255, 255, 255, 0, 0, 0, 0, 0, 0, 0, 0], 0) := by decide +kernel
  rw [h1]
  decide +kernel
end Go.Proofs.Ytomabnfeipobnaa.Z
