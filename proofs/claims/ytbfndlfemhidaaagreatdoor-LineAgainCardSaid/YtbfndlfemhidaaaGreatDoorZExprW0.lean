/- Texts of this seat in one (ZExprW0), what nothing speaks of left out: by pack.py, a program of this session. -/
import Derived.Test.YtbfndlfemhidaaaGreatDoorK2
import Derived.Test.YtbfndlfemhidaaaGreatDoorK1
/- The words that stand ahead of what is made of a sum, as they lie in the program's variable. -/
namespace Go.Proofs.YtbfndlfemhidaaaGreatDoor.ExW
open Go.RowKit
def ModsAt (w : World) : Prop := ∀ j, j < 4 → w.cell? ⟨1, j, none⟩ = some (.string ⟨(Ex.modName (j + 1)).toArray⟩)
theorem ModsAt.below {w w' : World} (h : ModsAt w) (hb : Below w.heap.size w w') : ModsAt w' := fun j hj => (hb.cell (World.block_lt_of_cell? w _ (h j hj))).trans (h j hj)
end Go.Proofs.YtbfndlfemhidaaaGreatDoor.ExW
