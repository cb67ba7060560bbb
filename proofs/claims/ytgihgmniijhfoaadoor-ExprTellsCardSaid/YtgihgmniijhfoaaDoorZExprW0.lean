/- The words that stand ahead of what is made of a sum, as they lie in the program's variable. -/
import Derived.Test.YtgihgmniijhfoaaDoorZM
import Derived.Test.YtgihgmniijhfoaaDoorZE
namespace Go.Proofs.YtgihgmniijhfoaaDoor.ExW
open Go.RowKit
def ModsAt (w : World) : Prop := ∀ j, j < 4 → w.cell? ⟨0, j, none⟩ = some (.string ⟨(Ex.modName (j + 1)).toArray⟩)
theorem ModsAt.below {w w' : World} (h : ModsAt w) (hb : Below w.heap.size w w') : ModsAt w' := fun j hj => (hb.cell (World.block_lt_of_cell? w _ (h j hj))).trans (h j hj)
end Go.Proofs.YtgihgmniijhfoaaDoor.ExW
