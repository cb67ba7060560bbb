/- LabelsNames: the limits and errors have their numbers, and the chapter's examples are so. -/
import Derived.Test.YtkjmbfabgkppaaaDoorPx8
namespace Go.Proofs.YtkjmbfabgkppaaaDoor.Pure
open Go.RowKit Go.Proofs.YtkjmbfabgkppaaaDoor.P Go.Proofs.YtkjmbfabgkppaaaDoorW.PrintWords Go.Proofs.YtkjmbfabgkppaaaDoorW.PrintLast
theorem LabelsNames : quoinlaw21_LabelsNames.Pure := by
  show quoinlaw21_LabelsNames.f = some true
  decide +kernel
end Go.Proofs.YtkjmbfabgkppaaaDoor.Pure
