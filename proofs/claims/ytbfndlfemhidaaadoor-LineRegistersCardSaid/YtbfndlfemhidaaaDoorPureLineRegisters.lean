/- Texts of this seat in one (PureLineRegisters), what nothing speaks of left out: by pack.py, a program of this session. -/
import Derived.Test.YtbfndlfemhidaaaDoorPx10
/- Registers and their names: the walk (own/) tells it all. -/
namespace Go.Proofs.YtbfndlfemhidaaaDoor.Pure
open Go.RowKit Go.Proofs.YtbfndlfemhidaaaDoor.P Go.Proofs.YtbfndlfemhidaaaDoorW.PrintWords Go.Proofs.YtbfndlfemhidaaaDoorW.PrintLast
theorem LineRegisters : quoinlaw17_LineRegisters.Pure := by
  intro n name hn hs
  refine ⟨0, if_pos ?_⟩
  simp [Lit.wf, IntKind.min, IntKind.max, IntKind.signed, IntKind.bits] at hn
  exact ⟨by omega, by omega, hs⟩
end Go.Proofs.YtbfndlfemhidaaaDoor.Pure
