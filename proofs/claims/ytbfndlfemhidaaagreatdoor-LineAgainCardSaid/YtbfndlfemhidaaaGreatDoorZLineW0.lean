/- Texts of this seat in one (ZLineW0), what nothing speaks of left out: by pack.py, a program of this session. -/
import Derived.Test.YtbfndlfemhidaaaGreatDoorK2
import Derived.Test.YtbfndlfemhidaaaGreatDoorK1
/- The registers' first names, as they lie in the program's variable. -/
namespace Go.Proofs.YtbfndlfemhidaaaGreatDoor.LiW
open Go.RowKit
def RegsAt (w : World) : Prop := ∀ j, j < 32 → w.cell? ⟨0, j, none⟩ = some (.string ⟨(Li.regNames.getD j []).toArray⟩)
theorem RegsAt.below {w w' : World} (h : RegsAt w) (hb : Below w.heap.size w w') : RegsAt w' := fun j hj => (hb.cell (World.block_lt_of_cell? w _ (h j hj))).trans (h j hj)
end Go.Proofs.YtbfndlfemhidaaaGreatDoor.LiW
