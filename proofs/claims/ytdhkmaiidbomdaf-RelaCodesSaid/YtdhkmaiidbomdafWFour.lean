-- Words of the kit's print for this seat, those that its texts speak of alone (prune.py, a program of this session)
import Derived.Test.YtdhkmaiidbomdafWTab
/-! ### 56. Four, five, six operations that may come up next, in any order -/
namespace Go.Proofs.YtdhkmaiidbomdafW.PrintLast
section
variable {P : Program} {ops : Array Oper} {Q : Exit → Act → World → Prop} {md : Region.Mode} {S : World → Prop} {ds : List Nat} {T : Bool × List (List Nat × List Nat)}
end
end Go.Proofs.YtdhkmaiidbomdafW.PrintLast
