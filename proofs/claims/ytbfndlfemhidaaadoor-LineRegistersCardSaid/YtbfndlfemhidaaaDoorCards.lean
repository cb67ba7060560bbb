/-
  DERIVED. GIVEN WITH THE SEED: THE CARDS: each row of YtbfndlfemhidaaaDoorRows.lean that lists a variable, with what it lists TIED to the program's text (the seventh form; the later family's looks); each row that meets fmt, with fmt's text TOLD by the authors' own Lean function (tested against real Go, not proved from fmt's source: count such statements apart). THE CARD IS WHAT COUNTS. Prove the row's statement (the work); the ties are given (YtbfndlfemhidaaaDoorTie.lean); close each card by the builder's one call (the guide's Derived/Test/ToyasCard.lean, 'card_holds'). Laid BY PROGRAM, IN A SANDBOX (cutbox-door.mjs). By AI agents, Wed Nov 11 2026. No macro, syntax, notation, axiom, sorry.
-/
import Derived.Test.YtbfndlfemhidaaaDoorRows
import GoSem.ClaimSeven
namespace Go.Proofs.YtbfndlfemhidaaaDoor
namespace Rows

/-- THE TIED CARD OF 'quoinlaw17.LineRegisters'. -/
def lineRegistersCard : Claim7 := { stood := { row := lineRegistersRow, standIns := [], harness := (true, "c1ee84a725e5d8d64e940f487950a972228d9715cf8574028093758b3855cb90"), looks := true }, kinds := [], alts := [], laidByText := true, laidKinds := [.data, .data, .data, .sentinel, .sentinel, .widerDeep, .widerDeep], laidTests := true, laidLooks := .later }
def LineRegistersCardSaid : Prop := Claim7.holds Tryd.pinned (.plain (OpenSpec.ofChange lineRegistersSpec)) lineRegistersCard

/-- THE SECOND FORM's CARD OF 'quoinlaw17.LineRegisters'. -/
def lineRegistersUptoCard : Claim7 := { stood := { row := lineRegistersUptoRow, standIns := [], harness := (true, "c1ee84a725e5d8d64e940f487950a972228d9715cf8574028093758b3855cb90"), looks := true }, kinds := [], alts := [], laidByText := true, laidKinds := [.data, .data, .data, .sentinel, .sentinel, .widerDeep, .widerDeep], laidTests := true, laidLooks := .later }
def LineRegistersUptoCardSaid : Prop := Claim7.holds Tryd.pinned (.plain (OpenSpec.upto lineRegistersSpec)) lineRegistersUptoCard
end Rows
end Go.Proofs.YtbfndlfemhidaaaDoor
