/-
  DERIVED. GIVEN WITH THE SEED: THE CARDS: each row of YtkjmbfabgkppaaaDoorRows.lean that lists a variable, with what it lists TIED to the program's text (the seventh form; the later family's looks); each row that meets fmt, with fmt's text TOLD by the authors' own Lean function (tested against real Go, not proved from fmt's source: count such statements apart). THE CARD IS WHAT COUNTS. Prove the row's statement (the work); the ties are given (YtkjmbfabgkppaaaDoorTie.lean); close each card by the builder's one call (the guide's Derived/Test/ToyasCard.lean, 'card_holds'). Laid BY PROGRAM, IN A SANDBOX (cutbox-door.mjs). By AI agents, Wed Nov 11 2026. No macro, syntax, notation, axiom, sorry.
-/
import Derived.Test.YtkjmbfabgkppaaaDoorRows
import GoSem.ClaimSeven
namespace Go.Proofs.YtkjmbfabgkppaaaDoor
namespace Rows

/-- THE TIED CARD OF 'quoinlaw21.LabelsOnce'. -/
def labelsOnceCard : Claim7 := { stood := { row := labelsOnceRow, standIns := [], harness := (true, "e04b657116dad95713a8a33960459bc9c37dc294c4348db3b300825f37dcde11"), looks := false }, kinds := [], alts := [], laidByText := true, laidKinds := [.data, .data, .data, .data, .pinned], laidTests := true, laidLooks := .later }
def LabelsOnceCardSaid : Prop := Claim7.holds Tryd.pinned (.plain (OpenSpec.ofChange labelsOnceSpec)) labelsOnceCard

/-- THE TIED CARD OF 'quoinlaw21.LabelsReach'. -/
def labelsReachCard : Claim7 := { stood := { row := labelsReachRow, standIns := [], harness := (true, "e04b657116dad95713a8a33960459bc9c37dc294c4348db3b300825f37dcde11"), looks := false }, kinds := [], alts := [], laidByText := true, laidKinds := [.data, .data, .data, .data, .pinned], laidTests := true, laidLooks := .later }
def LabelsReachCardSaid : Prop := Claim7.holds Tryd.pinned (.plain (OpenSpec.ofChange labelsReachSpec)) labelsReachCard

/-- THE TIED CARD OF 'quoinlaw21.LabelsNames'. -/
def labelsNamesCard : Claim7 := { stood := { row := labelsNamesRow, standIns := [], harness := (true, "e04b657116dad95713a8a33960459bc9c37dc294c4348db3b300825f37dcde11"), looks := false }, kinds := [], alts := [], laidByText := true, laidKinds := [.data, .data, .data, .data, .pinned], laidTests := true, laidLooks := .later }
def LabelsNamesCardSaid : Prop := Claim7.holds Tryd.pinned (.plain (OpenSpec.ofChange labelsNamesSpec)) labelsNamesCard

/-- THE TIED CARD OF 'quoinlaw21.LabelsRename'. -/
def labelsRenameCard : Claim7 := { stood := { row := labelsRenameRow, standIns := [], harness := (true, "e04b657116dad95713a8a33960459bc9c37dc294c4348db3b300825f37dcde11"), looks := false }, kinds := [], alts := [], laidByText := true, laidKinds := [.data, .data, .data, .data, .pinned], laidTests := true, laidLooks := .later }
def LabelsRenameCardSaid : Prop := Claim7.holds Tryd.pinned (.plain (OpenSpec.ofChange labelsRenameSpec)) labelsRenameCard

/-- THE TIED CARD OF 'quoinlaw21.LabelsKeeps'. -/
def labelsKeepsCard : Claim7 := { stood := { row := labelsKeepsRow, standIns := [], harness := (true, "e04b657116dad95713a8a33960459bc9c37dc294c4348db3b300825f37dcde11"), looks := false }, kinds := [], alts := [], laidByText := true, laidKinds := [.data, .data, .data, .data, .pinned], laidTests := true, laidLooks := .later }
def LabelsKeepsCardSaid : Prop := Claim7.holds Tryd.pinned (.plain (OpenSpec.ofChange labelsKeepsSpec)) labelsKeepsCard

/-- THE SECOND FORM's CARD OF 'quoinlaw21.LabelsOnce'. -/
def labelsOnceUptoCard : Claim7 := { stood := { row := labelsOnceUptoRow, standIns := [], harness := (true, "e04b657116dad95713a8a33960459bc9c37dc294c4348db3b300825f37dcde11"), looks := false }, kinds := [], alts := [], laidByText := true, laidKinds := [.data, .data, .data, .data, .pinned], laidTests := true, laidLooks := .later }
def LabelsOnceUptoCardSaid : Prop := Claim7.holds Tryd.pinned (.plain (OpenSpec.upto labelsOnceSpec)) labelsOnceUptoCard

/-- THE SECOND FORM's CARD OF 'quoinlaw21.LabelsReach'. -/
def labelsReachUptoCard : Claim7 := { stood := { row := labelsReachUptoRow, standIns := [], harness := (true, "e04b657116dad95713a8a33960459bc9c37dc294c4348db3b300825f37dcde11"), looks := false }, kinds := [], alts := [], laidByText := true, laidKinds := [.data, .data, .data, .data, .pinned], laidTests := true, laidLooks := .later }
def LabelsReachUptoCardSaid : Prop := Claim7.holds Tryd.pinned (.plain (OpenSpec.upto labelsReachSpec)) labelsReachUptoCard

/-- THE SECOND FORM's CARD OF 'quoinlaw21.LabelsNames'. -/
def labelsNamesUptoCard : Claim7 := { stood := { row := labelsNamesUptoRow, standIns := [], harness := (true, "e04b657116dad95713a8a33960459bc9c37dc294c4348db3b300825f37dcde11"), looks := false }, kinds := [], alts := [], laidByText := true, laidKinds := [.data, .data, .data, .data, .pinned], laidTests := true, laidLooks := .later }
def LabelsNamesUptoCardSaid : Prop := Claim7.holds Tryd.pinned (.plain (OpenSpec.upto labelsNamesSpec)) labelsNamesUptoCard

/-- THE SECOND FORM's CARD OF 'quoinlaw21.LabelsRename'. -/
def labelsRenameUptoCard : Claim7 := { stood := { row := labelsRenameUptoRow, standIns := [], harness := (true, "e04b657116dad95713a8a33960459bc9c37dc294c4348db3b300825f37dcde11"), looks := false }, kinds := [], alts := [], laidByText := true, laidKinds := [.data, .data, .data, .data, .pinned], laidTests := true, laidLooks := .later }
def LabelsRenameUptoCardSaid : Prop := Claim7.holds Tryd.pinned (.plain (OpenSpec.upto labelsRenameSpec)) labelsRenameUptoCard

/-- THE SECOND FORM's CARD OF 'quoinlaw21.LabelsKeeps'. -/
def labelsKeepsUptoCard : Claim7 := { stood := { row := labelsKeepsUptoRow, standIns := [], harness := (true, "e04b657116dad95713a8a33960459bc9c37dc294c4348db3b300825f37dcde11"), looks := false }, kinds := [], alts := [], laidByText := true, laidKinds := [.data, .data, .data, .data, .pinned], laidTests := true, laidLooks := .later }
def LabelsKeepsUptoCardSaid : Prop := Claim7.holds Tryd.pinned (.plain (OpenSpec.upto labelsKeepsSpec)) labelsKeepsUptoCard
end Rows
end Go.Proofs.YtkjmbfabgkppaaaDoor
