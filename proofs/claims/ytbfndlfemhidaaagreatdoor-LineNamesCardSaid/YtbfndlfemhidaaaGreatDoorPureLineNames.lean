/- Texts of this seat in one (PureLineNames), what nothing speaks of left out: by pack.py, a program of this session. -/
import Derived.Test.YtbfndlfemhidaaaGreatDoorPx25
/- The chapter's examples: the walk (own/) tells them all. -/
namespace Go.Proofs.YtbfndlfemhidaaaGreatDoor.Pure
open Go.RowKit Go.Proofs.YtbfndlfemhidaaaGreatDoor.P Go.Proofs.YtbfndlfemhidaaaGreatDoorW.PrintWords Go.Proofs.YtbfndlfemhidaaaGreatDoorW.PrintLast
theorem LineNames : quoinlaw17_LineNames.Pure := ⟨0, rfl⟩
end Go.Proofs.YtbfndlfemhidaaaGreatDoor.Pure
