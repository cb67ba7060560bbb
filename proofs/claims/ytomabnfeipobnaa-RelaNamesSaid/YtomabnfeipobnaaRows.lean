/-
  No cell of these rows narrows 'for every input' (looked for: loops, veiled, ifaces, maps, wideKeys, modest, calm, conditions, laid).
  DERIVED. THE GIVEN ROWS OF THIS SEAT. 24 by the template 'for every input the law returns true; each argument reads behind the call as it read before'; 0 by the template 'total and deterministic' (their statements: YtomabnfeipobnaaTotals.lean).
  GIVEN WITH THE SEED: the statements are not yours to turn. If you find one false, say at which input.
  Laid BY PROGRAM, IN A SANDBOX (cutbox-rows.mjs): the forced cells as the released guide's own fill.sh prints them over the translation f64ada2f7c123942… (all of the seat's roots in one cut). By AI agents, Wed Nov 11 2026. No macro, syntax, notation, axiom, sorry.
-/
import Derived.Test.YtomabnfeipobnaaChecked
import GoSem.Claim
import GoSem.ClaimJoined
import GoSem.ClaimMapViews
import Derived.JoinedTies
import Derived.KernelRfl
namespace Go.Proofs.Ytomabnfeipobnaa
/- THE CELL 'sum', in the pinned program and in every row, IS THE sha256 OF THE DUMP (.gsa) THAT YtomabnfeipobnaaProg.lean LOADS. Nothing in Lean hashes anything: it is a label: what it is worth is what the hold of that sum in a sandbox is worth. -/
noncomputable def Try.pinned : Pinned := { name := "ytomabnfeipobnaa", sum := "f64ada2f7c123942c233150c336e68fdbf8a26a7f20d1e6f2b8ebd3e96e46840", checked := Try.checked }
namespace Rows
def none {H : Type} : Left H := { results := [], args := [] }

/-- 'quoinlaw09.SectHeads': WHATEVER THE INPUT: true; the input reads as it did. -/
def sectHeadsSpec : ChangeSpec := { name := "sectHeads", fn := fun _ => fun
  | [d1, d2] => { results := [.lit (.bool true)], args := [d1, d2] }
  | _ => none }
def sectHeadsRow : OpenClaim := { program := "ytomabnfeipobnaa", sum := "f64ada2f7c123942c233150c336e68fdbf8a26a7f20d1e6f2b8ebd3e96e46840", func := "quoin/quoinlaw09.SectHeads", spec := "sectHeads", apart := false }
def SectHeadsSaid : Prop := sectHeadsRow.holds Try.pinned (OpenSpec.ofChange sectHeadsSpec)

/-- ITS FALSE NEIGHBOUR: 'it returns false'. Refute it at one input. -/
def sectHeadsWrong : ChangeSpec := { name := "sectHeads", fn := fun _ => fun
  | [d1, d2] => { results := [.lit (.bool false)], args := [d1, d2] }
  | _ => none }
def SectHeadsWrongFalsely : Prop := sectHeadsRow.holds Try.pinned (OpenSpec.ofChange sectHeadsWrong)

/-- 'quoinlaw09.SectTwins': WHATEVER THE INPUT: true; the input reads as it did. -/
def sectTwinsSpec : ChangeSpec := { name := "sectTwins", fn := fun _ => fun
  | [d1, d2, d3, d4] => { results := [.lit (.bool true)], args := [d1, d2, d3, d4] }
  | _ => none }
def sectTwinsRow : OpenClaim := { program := "ytomabnfeipobnaa", sum := "f64ada2f7c123942c233150c336e68fdbf8a26a7f20d1e6f2b8ebd3e96e46840", func := "quoin/quoinlaw09.SectTwins", spec := "sectTwins", unfollowed := true, recurses := true, apart := false }
def SectTwinsSaid : Prop := sectTwinsRow.holds Try.pinned (OpenSpec.ofChange sectTwinsSpec)

/-- ITS FALSE NEIGHBOUR: 'it returns false'. Refute it at one input. -/
def sectTwinsWrong : ChangeSpec := { name := "sectTwins", fn := fun _ => fun
  | [d1, d2, d3, d4] => { results := [.lit (.bool false)], args := [d1, d2, d3, d4] }
  | _ => none }
def SectTwinsWrongFalsely : Prop := sectTwinsRow.holds Try.pinned (OpenSpec.ofChange sectTwinsWrong)

/-- 'quoinlaw09.SectBack': WHATEVER THE INPUT: true; the input reads as it did. -/
def sectBackSpec : ChangeSpec := { name := "sectBack", fn := fun _ => fun
  | [d1, d2] => { results := [.lit (.bool true)], args := [d1, d2] }
  | _ => none }
def sectBackRow : OpenClaim := { program := "ytomabnfeipobnaa", sum := "f64ada2f7c123942c233150c336e68fdbf8a26a7f20d1e6f2b8ebd3e96e46840", func := "quoin/quoinlaw09.SectBack", spec := "sectBack", unfollowed := true, recurses := true, apart := false }
def SectBackSaid : Prop := sectBackRow.holds Try.pinned (OpenSpec.ofChange sectBackSpec)

/-- ITS FALSE NEIGHBOUR: 'it returns false'. Refute it at one input. -/
def sectBackWrong : ChangeSpec := { name := "sectBack", fn := fun _ => fun
  | [d1, d2] => { results := [.lit (.bool false)], args := [d1, d2] }
  | _ => none }
def SectBackWrongFalsely : Prop := sectBackRow.holds Try.pinned (OpenSpec.ofChange sectBackWrong)

/-- 'quoinlaw09.SectChecks': WHATEVER THE INPUT: true; the input reads as it did. -/
def sectChecksSpec : ChangeSpec := { name := "sectChecks", fn := fun _ => fun
  | [d1, d2, d3] => { results := [.lit (.bool true)], args := [d1, d2, d3] }
  | _ => none }
def sectChecksRow : OpenClaim := { program := "ytomabnfeipobnaa", sum := "f64ada2f7c123942c233150c336e68fdbf8a26a7f20d1e6f2b8ebd3e96e46840", func := "quoin/quoinlaw09.SectChecks", spec := "sectChecks", unfollowed := true, recurses := true, apart := false }
def SectChecksSaid : Prop := sectChecksRow.holds Try.pinned (OpenSpec.ofChange sectChecksSpec)

/-- ITS FALSE NEIGHBOUR: 'it returns false'. Refute it at one input. -/
def sectChecksWrong : ChangeSpec := { name := "sectChecks", fn := fun _ => fun
  | [d1, d2, d3] => { results := [.lit (.bool false)], args := [d1, d2, d3] }
  | _ => none }
def SectChecksWrongFalsely : Prop := sectChecksRow.holds Try.pinned (OpenSpec.ofChange sectChecksWrong)

/-- 'quoinlaw09.SectKinds': WHATEVER THE INPUT: true; the input reads as it did. -/
def sectKindsSpec : ChangeSpec := { name := "sectKinds", fn := fun _ => fun
  | [d1, d2, d3] => { results := [.lit (.bool true)], args := [d1, d2, d3] }
  | _ => none }
def sectKindsRow : OpenClaim := { program := "ytomabnfeipobnaa", sum := "f64ada2f7c123942c233150c336e68fdbf8a26a7f20d1e6f2b8ebd3e96e46840", func := "quoin/quoinlaw09.SectKinds", spec := "sectKinds", unfollowed := true, recurses := true, apart := false }
def SectKindsSaid : Prop := sectKindsRow.holds Try.pinned (OpenSpec.ofChange sectKindsSpec)

/-- ITS FALSE NEIGHBOUR: 'it returns false'. Refute it at one input. -/
def sectKindsWrong : ChangeSpec := { name := "sectKinds", fn := fun _ => fun
  | [d1, d2, d3] => { results := [.lit (.bool false)], args := [d1, d2, d3] }
  | _ => none }
def SectKindsWrongFalsely : Prop := sectKindsRow.holds Try.pinned (OpenSpec.ofChange sectKindsWrong)

/-- 'quoinlaw09.SectMay': WHATEVER THE INPUT: true; the input reads as it did. -/
def sectMaySpec : ChangeSpec := { name := "sectMay", fn := fun _ => fun
  | [d] => { results := [.lit (.bool true)], args := [d] }
  | _ => none }
def sectMayRow : OpenClaim := { program := "ytomabnfeipobnaa", sum := "f64ada2f7c123942c233150c336e68fdbf8a26a7f20d1e6f2b8ebd3e96e46840", func := "quoin/quoinlaw09.SectMay", spec := "sectMay", unfollowed := true, recurses := true, apart := false }
def SectMaySaid : Prop := sectMayRow.holds Try.pinned (OpenSpec.ofChange sectMaySpec)

/-- ITS FALSE NEIGHBOUR: 'it returns false'. Refute it at one input. -/
def sectMayWrong : ChangeSpec := { name := "sectMay", fn := fun _ => fun
  | [d] => { results := [.lit (.bool false)], args := [d] }
  | _ => none }
def SectMayWrongFalsely : Prop := sectMayRow.holds Try.pinned (OpenSpec.ofChange sectMayWrong)

/-- 'quoinlaw09.SectNames': WHATEVER THE INPUT: true; the input reads as it did. -/
def sectNamesSpec : ChangeSpec := { name := "sectNames", fn := fun _ => fun
  | [] => { results := [.lit (.bool true)], args := [] }
  | _ => none }
def sectNamesRow : OpenClaim := { program := "ytomabnfeipobnaa", sum := "f64ada2f7c123942c233150c336e68fdbf8a26a7f20d1e6f2b8ebd3e96e46840", func := "quoin/quoinlaw09.SectNames", spec := "sectNames", unfollowed := true, recurses := true, apart := false }
def SectNamesSaid : Prop := sectNamesRow.holds Try.pinned (OpenSpec.ofChange sectNamesSpec)

/-- ITS FALSE NEIGHBOUR: 'it returns false'. Refute it at one input. -/
def sectNamesWrong : ChangeSpec := { name := "sectNames", fn := fun _ => fun
  | [] => { results := [.lit (.bool false)], args := [] }
  | _ => none }
def SectNamesWrongFalsely : Prop := sectNamesRow.holds Try.pinned (OpenSpec.ofChange sectNamesWrong)

/-- 'quoinlaw26.ApplyNames': WHATEVER THE INPUT: true; the input reads as it did. -/
def applyNamesSpec : ChangeSpec := { name := "applyNames", fn := fun _ => fun
  | [] => { results := [.lit (.bool true)], args := [] }
  | _ => none }
def applyNamesRow : OpenClaim := { program := "ytomabnfeipobnaa", sum := "f64ada2f7c123942c233150c336e68fdbf8a26a7f20d1e6f2b8ebd3e96e46840", func := "quoin/quoinlaw26.ApplyNames", spec := "applyNames", recurses := true, apart := false }
def ApplyNamesSaid : Prop := applyNamesRow.holds Try.pinned (OpenSpec.ofChange applyNamesSpec)

/-- ITS FALSE NEIGHBOUR: 'it returns false'. Refute it at one input. -/
def applyNamesWrong : ChangeSpec := { name := "applyNames", fn := fun _ => fun
  | [] => { results := [.lit (.bool false)], args := [] }
  | _ => none }
def ApplyNamesWrongFalsely : Prop := applyNamesRow.holds Try.pinned (OpenSpec.ofChange applyNamesWrong)

/-- 'quoinlaw26.ApplyFixes': WHATEVER THE INPUT: true; the input reads as it did. -/
def applyFixesSpec : ChangeSpec := { name := "applyFixes", fn := fun _ => fun
  | [d1, d2, d3] => { results := [.lit (.bool true)], args := [d1, d2, d3] }
  | _ => none }
def applyFixesRow : OpenClaim := { program := "ytomabnfeipobnaa", sum := "f64ada2f7c123942c233150c336e68fdbf8a26a7f20d1e6f2b8ebd3e96e46840", func := "quoin/quoinlaw26.ApplyFixes", spec := "applyFixes", recurses := true, apart := false }
def ApplyFixesSaid : Prop := applyFixesRow.holds Try.pinned (OpenSpec.ofChange applyFixesSpec)

/-- ITS FALSE NEIGHBOUR: 'it returns false'. Refute it at one input. -/
def applyFixesWrong : ChangeSpec := { name := "applyFixes", fn := fun _ => fun
  | [d1, d2, d3] => { results := [.lit (.bool false)], args := [d1, d2, d3] }
  | _ => none }
def ApplyFixesWrongFalsely : Prop := applyFixesRow.holds Try.pinned (OpenSpec.ofChange applyFixesWrong)

/-- 'quoinlaw26.ApplyParts': WHATEVER THE INPUT: true; the input reads as it did. -/
def applyPartsSpec : ChangeSpec := { name := "applyParts", fn := fun _ => fun
  | [d] => { results := [.lit (.bool true)], args := [d] }
  | _ => none }
def applyPartsRow : OpenClaim := { program := "ytomabnfeipobnaa", sum := "f64ada2f7c123942c233150c336e68fdbf8a26a7f20d1e6f2b8ebd3e96e46840", func := "quoin/quoinlaw26.ApplyParts", spec := "applyParts", recurses := true, apart := false }
def ApplyPartsSaid : Prop := applyPartsRow.holds Try.pinned (OpenSpec.ofChange applyPartsSpec)

/-- ITS FALSE NEIGHBOUR: 'it returns false'. Refute it at one input. -/
def applyPartsWrong : ChangeSpec := { name := "applyParts", fn := fun _ => fun
  | [d] => { results := [.lit (.bool false)], args := [d] }
  | _ => none }
def ApplyPartsWrongFalsely : Prop := applyPartsRow.holds Try.pinned (OpenSpec.ofChange applyPartsWrong)

/-- 'quoinlaw26.ApplyWhole': WHATEVER THE INPUT: true; the input reads as it did. -/
def applyWholeSpec : ChangeSpec := { name := "applyWhole", fn := fun _ => fun
  | [d1, d2, d3, d4] => { results := [.lit (.bool true)], args := [d1, d2, d3, d4] }
  | _ => none }
def applyWholeRow : OpenClaim := { program := "ytomabnfeipobnaa", sum := "f64ada2f7c123942c233150c336e68fdbf8a26a7f20d1e6f2b8ebd3e96e46840", func := "quoin/quoinlaw26.ApplyWhole", spec := "applyWhole", recurses := true, apart := false }
def ApplyWholeSaid : Prop := applyWholeRow.holds Try.pinned (OpenSpec.ofChange applyWholeSpec)

/-- ITS FALSE NEIGHBOUR: 'it returns false'. Refute it at one input. -/
def applyWholeWrong : ChangeSpec := { name := "applyWhole", fn := fun _ => fun
  | [d1, d2, d3, d4] => { results := [.lit (.bool false)], args := [d1, d2, d3, d4] }
  | _ => none }
def ApplyWholeWrongFalsely : Prop := applyWholeRow.holds Try.pinned (OpenSpec.ofChange applyWholeWrong)

/-- 'quoinlaw26.ApplyKeeps': WHATEVER THE INPUT: true; the input reads as it did. -/
def applyKeepsSpec : ChangeSpec := { name := "applyKeeps", fn := fun _ => fun
  | [d1, d2, d3, d4] => { results := [.lit (.bool true)], args := [d1, d2, d3, d4] }
  | _ => none }
def applyKeepsRow : OpenClaim := { program := "ytomabnfeipobnaa", sum := "f64ada2f7c123942c233150c336e68fdbf8a26a7f20d1e6f2b8ebd3e96e46840", func := "quoin/quoinlaw26.ApplyKeeps", spec := "applyKeeps", recurses := true, apart := false }
def ApplyKeepsSaid : Prop := applyKeepsRow.holds Try.pinned (OpenSpec.ofChange applyKeepsSpec)

/-- ITS FALSE NEIGHBOUR: 'it returns false'. Refute it at one input. -/
def applyKeepsWrong : ChangeSpec := { name := "applyKeeps", fn := fun _ => fun
  | [d1, d2, d3, d4] => { results := [.lit (.bool false)], args := [d1, d2, d3, d4] }
  | _ => none }
def ApplyKeepsWrongFalsely : Prop := applyKeepsRow.holds Try.pinned (OpenSpec.ofChange applyKeepsWrong)

/-- 'quoinlaw26.ApplyEven': WHATEVER THE INPUT: true; the input reads as it did. -/
def applyEvenSpec : ChangeSpec := { name := "applyEven", fn := fun _ => fun
  | [d1, d2, d3, d4] => { results := [.lit (.bool true)], args := [d1, d2, d3, d4] }
  | _ => none }
def applyEvenRow : OpenClaim := { program := "ytomabnfeipobnaa", sum := "f64ada2f7c123942c233150c336e68fdbf8a26a7f20d1e6f2b8ebd3e96e46840", func := "quoin/quoinlaw26.ApplyEven", spec := "applyEven", recurses := true, apart := false }
def ApplyEvenSaid : Prop := applyEvenRow.holds Try.pinned (OpenSpec.ofChange applyEvenSpec)

/-- ITS FALSE NEIGHBOUR: 'it returns false'. Refute it at one input. -/
def applyEvenWrong : ChangeSpec := { name := "applyEven", fn := fun _ => fun
  | [d1, d2, d3, d4] => { results := [.lit (.bool false)], args := [d1, d2, d3, d4] }
  | _ => none }
def ApplyEvenWrongFalsely : Prop := applyEvenRow.holds Try.pinned (OpenSpec.ofChange applyEvenWrong)

/-- 'quoinlaw10.SymWhere': WHATEVER THE INPUT: true; the input reads as it did. -/
def symWhereSpec : ChangeSpec := { name := "symWhere", fn := fun _ => fun
  | [d1, d2] => { results := [.lit (.bool true)], args := [d1, d2] }
  | _ => none }
def symWhereRow : OpenClaim := { program := "ytomabnfeipobnaa", sum := "f64ada2f7c123942c233150c336e68fdbf8a26a7f20d1e6f2b8ebd3e96e46840", func := "quoin/quoinlaw10.SymWhere", spec := "symWhere", unfollowed := true, recurses := true, apart := false }
def SymWhereSaid : Prop := symWhereRow.holds Try.pinned (OpenSpec.ofChange symWhereSpec)

/-- ITS FALSE NEIGHBOUR: 'it returns false'. Refute it at one input. -/
def symWhereWrong : ChangeSpec := { name := "symWhere", fn := fun _ => fun
  | [d1, d2] => { results := [.lit (.bool false)], args := [d1, d2] }
  | _ => none }
def SymWhereWrongFalsely : Prop := symWhereRow.holds Try.pinned (OpenSpec.ofChange symWhereWrong)

/-- 'quoinlaw10.SymUnlike': WHATEVER THE INPUT: true; the input reads as it did. -/
def symUnlikeSpec : ChangeSpec := { name := "symUnlike", fn := fun _ => fun
  | [d1, d2, d3, d4] => { results := [.lit (.bool true)], args := [d1, d2, d3, d4] }
  | _ => none }
def symUnlikeRow : OpenClaim := { program := "ytomabnfeipobnaa", sum := "f64ada2f7c123942c233150c336e68fdbf8a26a7f20d1e6f2b8ebd3e96e46840", func := "quoin/quoinlaw10.SymUnlike", spec := "symUnlike", unfollowed := true, recurses := true, apart := false }
def SymUnlikeSaid : Prop := symUnlikeRow.holds Try.pinned (OpenSpec.ofChange symUnlikeSpec)

/-- ITS FALSE NEIGHBOUR: 'it returns false'. Refute it at one input. -/
def symUnlikeWrong : ChangeSpec := { name := "symUnlike", fn := fun _ => fun
  | [d1, d2, d3, d4] => { results := [.lit (.bool false)], args := [d1, d2, d3, d4] }
  | _ => none }
def SymUnlikeWrongFalsely : Prop := symUnlikeRow.holds Try.pinned (OpenSpec.ofChange symUnlikeWrong)

/-- 'quoinlaw10.SymKinds': WHATEVER THE INPUT: true; the input reads as it did. -/
def symKindsSpec : ChangeSpec := { name := "symKinds", fn := fun _ => fun
  | [d] => { results := [.lit (.bool true)], args := [d] }
  | _ => none }
def symKindsRow : OpenClaim := { program := "ytomabnfeipobnaa", sum := "f64ada2f7c123942c233150c336e68fdbf8a26a7f20d1e6f2b8ebd3e96e46840", func := "quoin/quoinlaw10.SymKinds", spec := "symKinds", unfollowed := true, recurses := true, apart := false }
def SymKindsSaid : Prop := symKindsRow.holds Try.pinned (OpenSpec.ofChange symKindsSpec)

/-- ITS FALSE NEIGHBOUR: 'it returns false'. Refute it at one input. -/
def symKindsWrong : ChangeSpec := { name := "symKinds", fn := fun _ => fun
  | [d] => { results := [.lit (.bool false)], args := [d] }
  | _ => none }
def SymKindsWrongFalsely : Prop := symKindsRow.holds Try.pinned (OpenSpec.ofChange symKindsWrong)

/-- 'quoinlaw11.RelaFits': WHATEVER THE INPUT: true; the input reads as it did. -/
def relaFitsSpec : ChangeSpec := { name := "relaFits", fn := fun _ => fun
  | [d1, d2, d3] => { results := [.lit (.bool true)], args := [d1, d2, d3] }
  | _ => none }
def relaFitsRow : OpenClaim := { program := "ytomabnfeipobnaa", sum := "f64ada2f7c123942c233150c336e68fdbf8a26a7f20d1e6f2b8ebd3e96e46840", func := "quoin/quoinlaw11.RelaFits", spec := "relaFits", unfollowed := true, recurses := true, apart := false }
def RelaFitsSaid : Prop := relaFitsRow.holds Try.pinned (OpenSpec.ofChange relaFitsSpec)

/-- ITS FALSE NEIGHBOUR: 'it returns false'. Refute it at one input. -/
def relaFitsWrong : ChangeSpec := { name := "relaFits", fn := fun _ => fun
  | [d1, d2, d3] => { results := [.lit (.bool false)], args := [d1, d2, d3] }
  | _ => none }
def RelaFitsWrongFalsely : Prop := relaFitsRow.holds Try.pinned (OpenSpec.ofChange relaFitsWrong)

/-- 'quoinlaw11.RelaFields': WHATEVER THE INPUT: true; the input reads as it did. -/
def relaFieldsSpec : ChangeSpec := { name := "relaFields", fn := fun _ => fun
  | [d1, d2, d3] => { results := [.lit (.bool true)], args := [d1, d2, d3] }
  | _ => none }
def relaFieldsRow : OpenClaim := { program := "ytomabnfeipobnaa", sum := "f64ada2f7c123942c233150c336e68fdbf8a26a7f20d1e6f2b8ebd3e96e46840", func := "quoin/quoinlaw11.RelaFields", spec := "relaFields", unfollowed := true, recurses := true, apart := false }
def RelaFieldsSaid : Prop := relaFieldsRow.holds Try.pinned (OpenSpec.ofChange relaFieldsSpec)

/-- ITS FALSE NEIGHBOUR: 'it returns false'. Refute it at one input. -/
def relaFieldsWrong : ChangeSpec := { name := "relaFields", fn := fun _ => fun
  | [d1, d2, d3] => { results := [.lit (.bool false)], args := [d1, d2, d3] }
  | _ => none }
def RelaFieldsWrongFalsely : Prop := relaFieldsRow.holds Try.pinned (OpenSpec.ofChange relaFieldsWrong)

/-- 'quoinlaw10.SymNames': WHATEVER THE INPUT: true; the input reads as it did. -/
def symNamesSpec : ChangeSpec := { name := "symNames", fn := fun _ => fun
  | [] => { results := [.lit (.bool true)], args := [] }
  | _ => none }
def symNamesRow : OpenClaim := { program := "ytomabnfeipobnaa", sum := "f64ada2f7c123942c233150c336e68fdbf8a26a7f20d1e6f2b8ebd3e96e46840", func := "quoin/quoinlaw10.SymNames", spec := "symNames", unfollowed := true, recurses := true, apart := false }
def SymNamesSaid : Prop := symNamesRow.holds Try.pinned (OpenSpec.ofChange symNamesSpec)

/-- ITS FALSE NEIGHBOUR: 'it returns false'. Refute it at one input. -/
def symNamesWrong : ChangeSpec := { name := "symNames", fn := fun _ => fun
  | [] => { results := [.lit (.bool false)], args := [] }
  | _ => none }
def SymNamesWrongFalsely : Prop := symNamesRow.holds Try.pinned (OpenSpec.ofChange symNamesWrong)

/-- 'quoinlaw10.SymCodes': WHATEVER THE INPUT: true; the input reads as it did. -/
def symCodesSpec : ChangeSpec := { name := "symCodes", fn := fun _ => fun
  | [d1, d2, d3, d4] => { results := [.lit (.bool true)], args := [d1, d2, d3, d4] }
  | _ => none }
def symCodesRow : OpenClaim := { program := "ytomabnfeipobnaa", sum := "f64ada2f7c123942c233150c336e68fdbf8a26a7f20d1e6f2b8ebd3e96e46840", func := "quoin/quoinlaw10.SymCodes", spec := "symCodes", unfollowed := true, recurses := true, apart := false }
def SymCodesSaid : Prop := symCodesRow.holds Try.pinned (OpenSpec.ofChange symCodesSpec)

/-- ITS FALSE NEIGHBOUR: 'it returns false'. Refute it at one input. -/
def symCodesWrong : ChangeSpec := { name := "symCodes", fn := fun _ => fun
  | [d1, d2, d3, d4] => { results := [.lit (.bool false)], args := [d1, d2, d3, d4] }
  | _ => none }
def SymCodesWrongFalsely : Prop := symCodesRow.holds Try.pinned (OpenSpec.ofChange symCodesWrong)

/-- 'quoinlaw10.SymBack': WHATEVER THE INPUT: true; the input reads as it did. -/
def symBackSpec : ChangeSpec := { name := "symBack", fn := fun _ => fun
  | [d1, d2, d3] => { results := [.lit (.bool true)], args := [d1, d2, d3] }
  | _ => none }
def symBackRow : OpenClaim := { program := "ytomabnfeipobnaa", sum := "f64ada2f7c123942c233150c336e68fdbf8a26a7f20d1e6f2b8ebd3e96e46840", func := "quoin/quoinlaw10.SymBack", spec := "symBack", unfollowed := true, recurses := true, apart := false }
def SymBackSaid : Prop := symBackRow.holds Try.pinned (OpenSpec.ofChange symBackSpec)

/-- ITS FALSE NEIGHBOUR: 'it returns false'. Refute it at one input. -/
def symBackWrong : ChangeSpec := { name := "symBack", fn := fun _ => fun
  | [d1, d2, d3] => { results := [.lit (.bool false)], args := [d1, d2, d3] }
  | _ => none }
def SymBackWrongFalsely : Prop := symBackRow.holds Try.pinned (OpenSpec.ofChange symBackWrong)

/-- 'quoinlaw11.RelaNames': WHATEVER THE INPUT: true; the input reads as it did. -/
def relaNamesSpec : ChangeSpec := { name := "relaNames", fn := fun _ => fun
  | [] => { results := [.lit (.bool true)], args := [] }
  | _ => none }
def relaNamesRow : OpenClaim := { program := "ytomabnfeipobnaa", sum := "f64ada2f7c123942c233150c336e68fdbf8a26a7f20d1e6f2b8ebd3e96e46840", func := "quoin/quoinlaw11.RelaNames", spec := "relaNames", unfollowed := true, recurses := true, apart := false }
def RelaNamesSaid : Prop := relaNamesRow.holds Try.pinned (OpenSpec.ofChange relaNamesSpec)

/-- ITS FALSE NEIGHBOUR: 'it returns false'. Refute it at one input. -/
def relaNamesWrong : ChangeSpec := { name := "relaNames", fn := fun _ => fun
  | [] => { results := [.lit (.bool false)], args := [] }
  | _ => none }
def RelaNamesWrongFalsely : Prop := relaNamesRow.holds Try.pinned (OpenSpec.ofChange relaNamesWrong)

/-- 'quoinlaw11.RelaCodes': WHATEVER THE INPUT: true; the input reads as it did. -/
def relaCodesSpec : ChangeSpec := { name := "relaCodes", fn := fun _ => fun
  | [d1, d2, d3, d4, d5] => { results := [.lit (.bool true)], args := [d1, d2, d3, d4, d5] }
  | _ => none }
def relaCodesRow : OpenClaim := { program := "ytomabnfeipobnaa", sum := "f64ada2f7c123942c233150c336e68fdbf8a26a7f20d1e6f2b8ebd3e96e46840", func := "quoin/quoinlaw11.RelaCodes", spec := "relaCodes", unfollowed := true, recurses := true, apart := false }
def RelaCodesSaid : Prop := relaCodesRow.holds Try.pinned (OpenSpec.ofChange relaCodesSpec)

/-- ITS FALSE NEIGHBOUR: 'it returns false'. Refute it at one input. -/
def relaCodesWrong : ChangeSpec := { name := "relaCodes", fn := fun _ => fun
  | [d1, d2, d3, d4, d5] => { results := [.lit (.bool false)], args := [d1, d2, d3, d4, d5] }
  | _ => none }
def RelaCodesWrongFalsely : Prop := relaCodesRow.holds Try.pinned (OpenSpec.ofChange relaCodesWrong)

/-- 'quoinlaw11.RelaBack': WHATEVER THE INPUT: true; the input reads as it did. -/
def relaBackSpec : ChangeSpec := { name := "relaBack", fn := fun _ => fun
  | [d1, d2] => { results := [.lit (.bool true)], args := [d1, d2] }
  | _ => none }
def relaBackRow : OpenClaim := { program := "ytomabnfeipobnaa", sum := "f64ada2f7c123942c233150c336e68fdbf8a26a7f20d1e6f2b8ebd3e96e46840", func := "quoin/quoinlaw11.RelaBack", spec := "relaBack", unfollowed := true, recurses := true, apart := false }
def RelaBackSaid : Prop := relaBackRow.holds Try.pinned (OpenSpec.ofChange relaBackSpec)

/-- ITS FALSE NEIGHBOUR: 'it returns false'. Refute it at one input. -/
def relaBackWrong : ChangeSpec := { name := "relaBack", fn := fun _ => fun
  | [d1, d2] => { results := [.lit (.bool false)], args := [d1, d2] }
  | _ => none }
def RelaBackWrongFalsely : Prop := relaBackRow.holds Try.pinned (OpenSpec.ofChange relaBackWrong)

/- THE SECOND FORM. 'bulk': how many values and letters a reading holds, each counted each time it is reached (what is shared counts as often as it is met; a slice's spare places count too). A statement '..UptoSaid' is the law's where the arguments, and the package variables that the reading takes, are together of bulk at most 1048576: NARROWER than '..Said'. Prove '..Said' where nothing that the law and all that it calls make is longer than what came in: it says more and counts as full. Else prove '..UptoSaid'. A law counts once. -/
mutual
def uptoBulk {H : Type} : DataW H → Nat
  | .lit (.string bytes) => bytes.length + 1
  | .lit _ => 1
  | .nil => 1
  | .ptr d => uptoBulk d + 1
  | .slice elems spare => uptoBulkAll elems + uptoBulkAll spare + 1
  | .agg parts => uptoBulkAll parts + 1
  | .iface _ d => uptoBulk d + 1
  | .map entries => uptoBulkEntries entries + 1
  | .held _ => 1
def uptoBulkAll {H : Type} : List (DataW H) → Nat
  | [] => 0
  | d :: r => uptoBulk d + uptoBulkAll r
def uptoBulkEntries {H : Type} : List (Lit × DataW H) → Nat
  | [] => 0
  | x :: r => uptoBulkEntry x + uptoBulkEntries r
def uptoBulkEntry {H : Type} : Lit × DataW H → Nat
  | (.string bytes, d) => bytes.length + uptoBulk d + 1
  | (_, d) => uptoBulk d + 1
 end
def uptoSmall : (H : Type) → List (DataW H) → Bool := fun _ ds => decide (uptoBulkAll ds ≤ 1048576)
def OpenSpec.upto (s : _root_.Go.ChangeSpec) : _root_.Go.OpenSpec := { _root_.Go.OpenSpec.ofChange s with cond := some uptoSmall }

/-- 'quoinlaw09.SectHeads', WHERE WHAT IT READS IS OF BULK AT MOST 1048576: true; the input reads as it did. -/
def sectHeadsUptoRow : OpenClaim := { program := "ytomabnfeipobnaa", sum := "f64ada2f7c123942c233150c336e68fdbf8a26a7f20d1e6f2b8ebd3e96e46840", func := "quoin/quoinlaw09.SectHeads", spec := "sectHeads", apart := false, narrowed := true }
def SectHeadsUptoSaid : Prop := sectHeadsUptoRow.holds Try.pinned (OpenSpec.upto sectHeadsSpec)

/-- 'quoinlaw09.SectTwins', WHERE WHAT IT READS IS OF BULK AT MOST 1048576: true; the input reads as it did. -/
def sectTwinsUptoRow : OpenClaim := { program := "ytomabnfeipobnaa", sum := "f64ada2f7c123942c233150c336e68fdbf8a26a7f20d1e6f2b8ebd3e96e46840", func := "quoin/quoinlaw09.SectTwins", spec := "sectTwins", unfollowed := true, recurses := true, apart := false, narrowed := true }
def SectTwinsUptoSaid : Prop := sectTwinsUptoRow.holds Try.pinned (OpenSpec.upto sectTwinsSpec)

/-- 'quoinlaw09.SectBack', WHERE WHAT IT READS IS OF BULK AT MOST 1048576: true; the input reads as it did. -/
def sectBackUptoRow : OpenClaim := { program := "ytomabnfeipobnaa", sum := "f64ada2f7c123942c233150c336e68fdbf8a26a7f20d1e6f2b8ebd3e96e46840", func := "quoin/quoinlaw09.SectBack", spec := "sectBack", unfollowed := true, recurses := true, apart := false, narrowed := true }
def SectBackUptoSaid : Prop := sectBackUptoRow.holds Try.pinned (OpenSpec.upto sectBackSpec)

/-- 'quoinlaw09.SectChecks', WHERE WHAT IT READS IS OF BULK AT MOST 1048576: true; the input reads as it did. -/
def sectChecksUptoRow : OpenClaim := { program := "ytomabnfeipobnaa", sum := "f64ada2f7c123942c233150c336e68fdbf8a26a7f20d1e6f2b8ebd3e96e46840", func := "quoin/quoinlaw09.SectChecks", spec := "sectChecks", unfollowed := true, recurses := true, apart := false, narrowed := true }
def SectChecksUptoSaid : Prop := sectChecksUptoRow.holds Try.pinned (OpenSpec.upto sectChecksSpec)

/-- 'quoinlaw09.SectKinds', WHERE WHAT IT READS IS OF BULK AT MOST 1048576: true; the input reads as it did. -/
def sectKindsUptoRow : OpenClaim := { program := "ytomabnfeipobnaa", sum := "f64ada2f7c123942c233150c336e68fdbf8a26a7f20d1e6f2b8ebd3e96e46840", func := "quoin/quoinlaw09.SectKinds", spec := "sectKinds", unfollowed := true, recurses := true, apart := false, narrowed := true }
def SectKindsUptoSaid : Prop := sectKindsUptoRow.holds Try.pinned (OpenSpec.upto sectKindsSpec)

/-- 'quoinlaw09.SectMay', WHERE WHAT IT READS IS OF BULK AT MOST 1048576: true; the input reads as it did. -/
def sectMayUptoRow : OpenClaim := { program := "ytomabnfeipobnaa", sum := "f64ada2f7c123942c233150c336e68fdbf8a26a7f20d1e6f2b8ebd3e96e46840", func := "quoin/quoinlaw09.SectMay", spec := "sectMay", unfollowed := true, recurses := true, apart := false, narrowed := true }
def SectMayUptoSaid : Prop := sectMayUptoRow.holds Try.pinned (OpenSpec.upto sectMaySpec)

/-- 'quoinlaw09.SectNames', WHERE WHAT IT READS IS OF BULK AT MOST 1048576: true; the input reads as it did. -/
def sectNamesUptoRow : OpenClaim := { program := "ytomabnfeipobnaa", sum := "f64ada2f7c123942c233150c336e68fdbf8a26a7f20d1e6f2b8ebd3e96e46840", func := "quoin/quoinlaw09.SectNames", spec := "sectNames", unfollowed := true, recurses := true, apart := false, narrowed := true }
def SectNamesUptoSaid : Prop := sectNamesUptoRow.holds Try.pinned (OpenSpec.upto sectNamesSpec)

/-- 'quoinlaw26.ApplyNames', WHERE WHAT IT READS IS OF BULK AT MOST 1048576: true; the input reads as it did. -/
def applyNamesUptoRow : OpenClaim := { program := "ytomabnfeipobnaa", sum := "f64ada2f7c123942c233150c336e68fdbf8a26a7f20d1e6f2b8ebd3e96e46840", func := "quoin/quoinlaw26.ApplyNames", spec := "applyNames", recurses := true, apart := false, narrowed := true }
def ApplyNamesUptoSaid : Prop := applyNamesUptoRow.holds Try.pinned (OpenSpec.upto applyNamesSpec)

/-- 'quoinlaw26.ApplyFixes', WHERE WHAT IT READS IS OF BULK AT MOST 1048576: true; the input reads as it did. -/
def applyFixesUptoRow : OpenClaim := { program := "ytomabnfeipobnaa", sum := "f64ada2f7c123942c233150c336e68fdbf8a26a7f20d1e6f2b8ebd3e96e46840", func := "quoin/quoinlaw26.ApplyFixes", spec := "applyFixes", recurses := true, apart := false, narrowed := true }
def ApplyFixesUptoSaid : Prop := applyFixesUptoRow.holds Try.pinned (OpenSpec.upto applyFixesSpec)

/-- 'quoinlaw26.ApplyParts', WHERE WHAT IT READS IS OF BULK AT MOST 1048576: true; the input reads as it did. -/
def applyPartsUptoRow : OpenClaim := { program := "ytomabnfeipobnaa", sum := "f64ada2f7c123942c233150c336e68fdbf8a26a7f20d1e6f2b8ebd3e96e46840", func := "quoin/quoinlaw26.ApplyParts", spec := "applyParts", recurses := true, apart := false, narrowed := true }
def ApplyPartsUptoSaid : Prop := applyPartsUptoRow.holds Try.pinned (OpenSpec.upto applyPartsSpec)

/-- 'quoinlaw26.ApplyWhole', WHERE WHAT IT READS IS OF BULK AT MOST 1048576: true; the input reads as it did. -/
def applyWholeUptoRow : OpenClaim := { program := "ytomabnfeipobnaa", sum := "f64ada2f7c123942c233150c336e68fdbf8a26a7f20d1e6f2b8ebd3e96e46840", func := "quoin/quoinlaw26.ApplyWhole", spec := "applyWhole", recurses := true, apart := false, narrowed := true }
def ApplyWholeUptoSaid : Prop := applyWholeUptoRow.holds Try.pinned (OpenSpec.upto applyWholeSpec)

/-- 'quoinlaw26.ApplyKeeps', WHERE WHAT IT READS IS OF BULK AT MOST 1048576: true; the input reads as it did. -/
def applyKeepsUptoRow : OpenClaim := { program := "ytomabnfeipobnaa", sum := "f64ada2f7c123942c233150c336e68fdbf8a26a7f20d1e6f2b8ebd3e96e46840", func := "quoin/quoinlaw26.ApplyKeeps", spec := "applyKeeps", recurses := true, apart := false, narrowed := true }
def ApplyKeepsUptoSaid : Prop := applyKeepsUptoRow.holds Try.pinned (OpenSpec.upto applyKeepsSpec)

/-- 'quoinlaw26.ApplyEven', WHERE WHAT IT READS IS OF BULK AT MOST 1048576: true; the input reads as it did. -/
def applyEvenUptoRow : OpenClaim := { program := "ytomabnfeipobnaa", sum := "f64ada2f7c123942c233150c336e68fdbf8a26a7f20d1e6f2b8ebd3e96e46840", func := "quoin/quoinlaw26.ApplyEven", spec := "applyEven", recurses := true, apart := false, narrowed := true }
def ApplyEvenUptoSaid : Prop := applyEvenUptoRow.holds Try.pinned (OpenSpec.upto applyEvenSpec)

/-- 'quoinlaw10.SymWhere', WHERE WHAT IT READS IS OF BULK AT MOST 1048576: true; the input reads as it did. -/
def symWhereUptoRow : OpenClaim := { program := "ytomabnfeipobnaa", sum := "f64ada2f7c123942c233150c336e68fdbf8a26a7f20d1e6f2b8ebd3e96e46840", func := "quoin/quoinlaw10.SymWhere", spec := "symWhere", unfollowed := true, recurses := true, apart := false, narrowed := true }
def SymWhereUptoSaid : Prop := symWhereUptoRow.holds Try.pinned (OpenSpec.upto symWhereSpec)

/-- 'quoinlaw10.SymUnlike', WHERE WHAT IT READS IS OF BULK AT MOST 1048576: true; the input reads as it did. -/
def symUnlikeUptoRow : OpenClaim := { program := "ytomabnfeipobnaa", sum := "f64ada2f7c123942c233150c336e68fdbf8a26a7f20d1e6f2b8ebd3e96e46840", func := "quoin/quoinlaw10.SymUnlike", spec := "symUnlike", unfollowed := true, recurses := true, apart := false, narrowed := true }
def SymUnlikeUptoSaid : Prop := symUnlikeUptoRow.holds Try.pinned (OpenSpec.upto symUnlikeSpec)

/-- 'quoinlaw10.SymKinds', WHERE WHAT IT READS IS OF BULK AT MOST 1048576: true; the input reads as it did. -/
def symKindsUptoRow : OpenClaim := { program := "ytomabnfeipobnaa", sum := "f64ada2f7c123942c233150c336e68fdbf8a26a7f20d1e6f2b8ebd3e96e46840", func := "quoin/quoinlaw10.SymKinds", spec := "symKinds", unfollowed := true, recurses := true, apart := false, narrowed := true }
def SymKindsUptoSaid : Prop := symKindsUptoRow.holds Try.pinned (OpenSpec.upto symKindsSpec)

/-- 'quoinlaw11.RelaFits', WHERE WHAT IT READS IS OF BULK AT MOST 1048576: true; the input reads as it did. -/
def relaFitsUptoRow : OpenClaim := { program := "ytomabnfeipobnaa", sum := "f64ada2f7c123942c233150c336e68fdbf8a26a7f20d1e6f2b8ebd3e96e46840", func := "quoin/quoinlaw11.RelaFits", spec := "relaFits", unfollowed := true, recurses := true, apart := false, narrowed := true }
def RelaFitsUptoSaid : Prop := relaFitsUptoRow.holds Try.pinned (OpenSpec.upto relaFitsSpec)

/-- 'quoinlaw11.RelaFields', WHERE WHAT IT READS IS OF BULK AT MOST 1048576: true; the input reads as it did. -/
def relaFieldsUptoRow : OpenClaim := { program := "ytomabnfeipobnaa", sum := "f64ada2f7c123942c233150c336e68fdbf8a26a7f20d1e6f2b8ebd3e96e46840", func := "quoin/quoinlaw11.RelaFields", spec := "relaFields", unfollowed := true, recurses := true, apart := false, narrowed := true }
def RelaFieldsUptoSaid : Prop := relaFieldsUptoRow.holds Try.pinned (OpenSpec.upto relaFieldsSpec)

/-- 'quoinlaw10.SymNames', WHERE WHAT IT READS IS OF BULK AT MOST 1048576: true; the input reads as it did. -/
def symNamesUptoRow : OpenClaim := { program := "ytomabnfeipobnaa", sum := "f64ada2f7c123942c233150c336e68fdbf8a26a7f20d1e6f2b8ebd3e96e46840", func := "quoin/quoinlaw10.SymNames", spec := "symNames", unfollowed := true, recurses := true, apart := false, narrowed := true }
def SymNamesUptoSaid : Prop := symNamesUptoRow.holds Try.pinned (OpenSpec.upto symNamesSpec)

/-- 'quoinlaw10.SymCodes', WHERE WHAT IT READS IS OF BULK AT MOST 1048576: true; the input reads as it did. -/
def symCodesUptoRow : OpenClaim := { program := "ytomabnfeipobnaa", sum := "f64ada2f7c123942c233150c336e68fdbf8a26a7f20d1e6f2b8ebd3e96e46840", func := "quoin/quoinlaw10.SymCodes", spec := "symCodes", unfollowed := true, recurses := true, apart := false, narrowed := true }
def SymCodesUptoSaid : Prop := symCodesUptoRow.holds Try.pinned (OpenSpec.upto symCodesSpec)

/-- 'quoinlaw10.SymBack', WHERE WHAT IT READS IS OF BULK AT MOST 1048576: true; the input reads as it did. -/
def symBackUptoRow : OpenClaim := { program := "ytomabnfeipobnaa", sum := "f64ada2f7c123942c233150c336e68fdbf8a26a7f20d1e6f2b8ebd3e96e46840", func := "quoin/quoinlaw10.SymBack", spec := "symBack", unfollowed := true, recurses := true, apart := false, narrowed := true }
def SymBackUptoSaid : Prop := symBackUptoRow.holds Try.pinned (OpenSpec.upto symBackSpec)

/-- 'quoinlaw11.RelaNames', WHERE WHAT IT READS IS OF BULK AT MOST 1048576: true; the input reads as it did. -/
def relaNamesUptoRow : OpenClaim := { program := "ytomabnfeipobnaa", sum := "f64ada2f7c123942c233150c336e68fdbf8a26a7f20d1e6f2b8ebd3e96e46840", func := "quoin/quoinlaw11.RelaNames", spec := "relaNames", unfollowed := true, recurses := true, apart := false, narrowed := true }
def RelaNamesUptoSaid : Prop := relaNamesUptoRow.holds Try.pinned (OpenSpec.upto relaNamesSpec)

/-- 'quoinlaw11.RelaCodes', WHERE WHAT IT READS IS OF BULK AT MOST 1048576: true; the input reads as it did. -/
def relaCodesUptoRow : OpenClaim := { program := "ytomabnfeipobnaa", sum := "f64ada2f7c123942c233150c336e68fdbf8a26a7f20d1e6f2b8ebd3e96e46840", func := "quoin/quoinlaw11.RelaCodes", spec := "relaCodes", unfollowed := true, recurses := true, apart := false, narrowed := true }
def RelaCodesUptoSaid : Prop := relaCodesUptoRow.holds Try.pinned (OpenSpec.upto relaCodesSpec)

/-- 'quoinlaw11.RelaBack', WHERE WHAT IT READS IS OF BULK AT MOST 1048576: true; the input reads as it did. -/
def relaBackUptoRow : OpenClaim := { program := "ytomabnfeipobnaa", sum := "f64ada2f7c123942c233150c336e68fdbf8a26a7f20d1e6f2b8ebd3e96e46840", func := "quoin/quoinlaw11.RelaBack", spec := "relaBack", unfollowed := true, recurses := true, apart := false, narrowed := true }
def RelaBackUptoSaid : Prop := relaBackUptoRow.holds Try.pinned (OpenSpec.upto relaBackSpec)

end Rows
end Go.Proofs.Ytomabnfeipobnaa
