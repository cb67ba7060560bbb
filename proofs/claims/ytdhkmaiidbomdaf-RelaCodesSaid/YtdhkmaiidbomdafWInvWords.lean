-- Words of the kit's print for this seat, those that its texts speak of alone (prune.py, a program of this session)
import Derived.Test.YtdhkmaiidbomdafWInv
import Derived.Test.YtdhkmaiidbomdafWFootNe
namespace Go.Proofs.YtdhkmaiidbomdafW.PrintWords
open Go.RowKit
end Go.Proofs.YtdhkmaiidbomdafW.PrintWords
namespace Go.Proofs.YtdhkmaiidbomdafW.PrintLast
section
variable {ops : Array Oper} {a : Act} {o og : Oper} {g : Nat} {t : Tmp} {u : Bool}
end
end Go.Proofs.YtdhkmaiidbomdafW.PrintLast
