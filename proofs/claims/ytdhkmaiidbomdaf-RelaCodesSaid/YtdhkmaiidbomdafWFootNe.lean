-- Words of the kit's print for this seat, those that its texts speak of alone (prune.py, a program of this session)
import Derived.Test.YtdhkmaiidbomdafWN
/-! ### 52. A row that stays read whatever happens to a block (a set of blocks) doesn't lie there -/
namespace Go.Proofs.YtdhkmaiidbomdafW.PrintWords
open Go.RowKit
namespace Kd
section
variable {α : Type} {d : Kd α} {W : World} {g n : Nat} {S ok : Nat → Prop} {A : Option Addr} {ad : Addr} {xs : List α}
end
end Kd
end Go.Proofs.YtdhkmaiidbomdafW.PrintWords
