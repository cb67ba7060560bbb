/-
  No cell of these rows narrows 'for every input' (looked for: loops, veiled, ifaces, maps, wideKeys, modest, calm, conditions, laid).
  DERIVED. THE GIVEN ROWS OF THIS SEAT. 6 by the template 'for every input the law returns true; each argument reads behind the call as it read before'; 0 by the template 'total and deterministic' (their statements: YtoljgjnbkejhaaaTotals.lean).
  GIVEN WITH THE SEED: the statements are not yours to turn. If you find one false, say at which input.
  Laid BY PROGRAM, IN A SANDBOX (cutbox-rows.mjs): the forced cells as the released guide's own fill.sh prints them over the translation 71c1c49335202bb2… (all of the seat's roots in one cut). By AI agents, Wed Nov 11 2026. No macro, syntax, notation, axiom, sorry.
-/
import Derived.Test.YtoljgjnbkejhaaaChecked
import GoSem.Claim
import GoSem.ClaimJoined
import GoSem.ClaimMapViews
import Derived.JoinedTies
import Derived.KernelRfl
namespace Go.Proofs.Ytoljgjnbkejhaaa
/- THE CELL 'sum', in the pinned program and in every row, IS THE sha256 OF THE DUMP (.gsa) THAT YtoljgjnbkejhaaaProg.lean LOADS. Nothing in Lean hashes anything: it is a label: what it is worth is what the hold of that sum in a sandbox is worth. -/
noncomputable def Try.pinned : Pinned := { name := "ytoljgjnbkejhaaa", sum := "71c1c49335202bb21e62ce940df7a05a3ea5376800b3d26477cef9f10362e9ff", checked := Try.checked }
namespace Rows
def none {H : Type} : Left H := { results := [], args := [] }

/-- 'quoinlaw26.ApplyNames': WHATEVER THE INPUT: true; the input reads as it did. -/
def applyNamesSpec : ChangeSpec := { name := "applyNames", fn := fun _ => fun
  | [] => { results := [.lit (.bool true)], args := [] }
  | _ => none }
def applyNamesRow : OpenClaim := { program := "ytoljgjnbkejhaaa", sum := "71c1c49335202bb21e62ce940df7a05a3ea5376800b3d26477cef9f10362e9ff", func := "quoin/quoinlaw26.ApplyNames", spec := "applyNames", recurses := true, apart := false }
def ApplyNamesSaid : Prop := applyNamesRow.holds Try.pinned (OpenSpec.ofChange applyNamesSpec)

/-- ITS FALSE NEIGHBOUR: 'it returns false'. Refute it at one input. -/
def applyNamesWrong : ChangeSpec := { name := "applyNames", fn := fun _ => fun
  | [] => { results := [.lit (.bool false)], args := [] }
  | _ => none }
def ApplyNamesWrongFalsely : Prop := applyNamesRow.holds Try.pinned (OpenSpec.ofChange applyNamesWrong)

/-- 'quoinlaw26.ApplyFixes': WHATEVER THE INPUT: true; the input reads as it did. -/
def applyFixesSpec : ChangeSpec := { name := "applyFixes", fn := fun _ => fun
  | [d1, d2, d3] => { results := [.lit (.bool true)], args := [d1, d2, d3] }
  | _ => none }
def applyFixesRow : OpenClaim := { program := "ytoljgjnbkejhaaa", sum := "71c1c49335202bb21e62ce940df7a05a3ea5376800b3d26477cef9f10362e9ff", func := "quoin/quoinlaw26.ApplyFixes", spec := "applyFixes", recurses := true, apart := false }
def ApplyFixesSaid : Prop := applyFixesRow.holds Try.pinned (OpenSpec.ofChange applyFixesSpec)

/-- ITS FALSE NEIGHBOUR: 'it returns false'. Refute it at one input. -/
def applyFixesWrong : ChangeSpec := { name := "applyFixes", fn := fun _ => fun
  | [d1, d2, d3] => { results := [.lit (.bool false)], args := [d1, d2, d3] }
  | _ => none }
def ApplyFixesWrongFalsely : Prop := applyFixesRow.holds Try.pinned (OpenSpec.ofChange applyFixesWrong)

/-- 'quoinlaw26.ApplyParts': WHATEVER THE INPUT: true; the input reads as it did. -/
def applyPartsSpec : ChangeSpec := { name := "applyParts", fn := fun _ => fun
  | [d] => { results := [.lit (.bool true)], args := [d] }
  | _ => none }
def applyPartsRow : OpenClaim := { program := "ytoljgjnbkejhaaa", sum := "71c1c49335202bb21e62ce940df7a05a3ea5376800b3d26477cef9f10362e9ff", func := "quoin/quoinlaw26.ApplyParts", spec := "applyParts", recurses := true, apart := false }
def ApplyPartsSaid : Prop := applyPartsRow.holds Try.pinned (OpenSpec.ofChange applyPartsSpec)

/-- ITS FALSE NEIGHBOUR: 'it returns false'. Refute it at one input. -/
def applyPartsWrong : ChangeSpec := { name := "applyParts", fn := fun _ => fun
  | [d] => { results := [.lit (.bool false)], args := [d] }
  | _ => none }
def ApplyPartsWrongFalsely : Prop := applyPartsRow.holds Try.pinned (OpenSpec.ofChange applyPartsWrong)

/-- 'quoinlaw26.ApplyWhole': WHATEVER THE INPUT: true; the input reads as it did. -/
def applyWholeSpec : ChangeSpec := { name := "applyWhole", fn := fun _ => fun
  | [d1, d2, d3, d4] => { results := [.lit (.bool true)], args := [d1, d2, d3, d4] }
  | _ => none }
def applyWholeRow : OpenClaim := { program := "ytoljgjnbkejhaaa", sum := "71c1c49335202bb21e62ce940df7a05a3ea5376800b3d26477cef9f10362e9ff", func := "quoin/quoinlaw26.ApplyWhole", spec := "applyWhole", recurses := true, apart := false }
def ApplyWholeSaid : Prop := applyWholeRow.holds Try.pinned (OpenSpec.ofChange applyWholeSpec)

/-- ITS FALSE NEIGHBOUR: 'it returns false'. Refute it at one input. -/
def applyWholeWrong : ChangeSpec := { name := "applyWhole", fn := fun _ => fun
  | [d1, d2, d3, d4] => { results := [.lit (.bool false)], args := [d1, d2, d3, d4] }
  | _ => none }
def ApplyWholeWrongFalsely : Prop := applyWholeRow.holds Try.pinned (OpenSpec.ofChange applyWholeWrong)

/-- 'quoinlaw26.ApplyKeeps': WHATEVER THE INPUT: true; the input reads as it did. -/
def applyKeepsSpec : ChangeSpec := { name := "applyKeeps", fn := fun _ => fun
  | [d1, d2, d3, d4] => { results := [.lit (.bool true)], args := [d1, d2, d3, d4] }
  | _ => none }
def applyKeepsRow : OpenClaim := { program := "ytoljgjnbkejhaaa", sum := "71c1c49335202bb21e62ce940df7a05a3ea5376800b3d26477cef9f10362e9ff", func := "quoin/quoinlaw26.ApplyKeeps", spec := "applyKeeps", recurses := true, apart := false }
def ApplyKeepsSaid : Prop := applyKeepsRow.holds Try.pinned (OpenSpec.ofChange applyKeepsSpec)

/-- ITS FALSE NEIGHBOUR: 'it returns false'. Refute it at one input. -/
def applyKeepsWrong : ChangeSpec := { name := "applyKeeps", fn := fun _ => fun
  | [d1, d2, d3, d4] => { results := [.lit (.bool false)], args := [d1, d2, d3, d4] }
  | _ => none }
def ApplyKeepsWrongFalsely : Prop := applyKeepsRow.holds Try.pinned (OpenSpec.ofChange applyKeepsWrong)

/-- 'quoinlaw26.ApplyEven': WHATEVER THE INPUT: true; the input reads as it did. -/
def applyEvenSpec : ChangeSpec := { name := "applyEven", fn := fun _ => fun
  | [d1, d2, d3, d4] => { results := [.lit (.bool true)], args := [d1, d2, d3, d4] }
  | _ => none }
def applyEvenRow : OpenClaim := { program := "ytoljgjnbkejhaaa", sum := "71c1c49335202bb21e62ce940df7a05a3ea5376800b3d26477cef9f10362e9ff", func := "quoin/quoinlaw26.ApplyEven", spec := "applyEven", recurses := true, apart := false }
def ApplyEvenSaid : Prop := applyEvenRow.holds Try.pinned (OpenSpec.ofChange applyEvenSpec)

/-- ITS FALSE NEIGHBOUR: 'it returns false'. Refute it at one input. -/
def applyEvenWrong : ChangeSpec := { name := "applyEven", fn := fun _ => fun
  | [d1, d2, d3, d4] => { results := [.lit (.bool false)], args := [d1, d2, d3, d4] }
  | _ => none }
def ApplyEvenWrongFalsely : Prop := applyEvenRow.holds Try.pinned (OpenSpec.ofChange applyEvenWrong)

/- THE SECOND FORM. 'bulk': how many values and letters a reading holds, each counted each time it is reached (what is shared counts as often as it is met; a slice's spare places count too). A statement '..UptoSaid' is the law's where the arguments, and the package variables that the reading takes, are together of bulk at most 1048576: NARROWER than '..Said'. Prove '..Said' where nothing that the law and all that it calls make is longer than what came in: it says more and counts as full. Else prove '..UptoSaid'. A law counts once. -/
mutual
def uptoBulk {H : Type} : DataW H → Nat
  | .lit (.string bytes) => bytes.length + 1
  | .lit _ => 1
  | .nil => 1
  | .ptr d => uptoBulk d + 1
  | .slice elems spare => uptoBulkAll elems + uptoBulkAll spare + 1
  | .agg parts => uptoBulkAll parts + 1
  | .iface _ d => uptoBulk d + 1
  | .map entries => uptoBulkEntries entries + 1
  | .held _ => 1
def uptoBulkAll {H : Type} : List (DataW H) → Nat
  | [] => 0
  | d :: r => uptoBulk d + uptoBulkAll r
def uptoBulkEntries {H : Type} : List (Lit × DataW H) → Nat
  | [] => 0
  | x :: r => uptoBulkEntry x + uptoBulkEntries r
def uptoBulkEntry {H : Type} : Lit × DataW H → Nat
  | (.string bytes, d) => bytes.length + uptoBulk d + 1
  | (_, d) => uptoBulk d + 1
 end
def uptoSmall : (H : Type) → List (DataW H) → Bool := fun _ ds => decide (uptoBulkAll ds ≤ 1048576)
def OpenSpec.upto (s : _root_.Go.ChangeSpec) : _root_.Go.OpenSpec := { _root_.Go.OpenSpec.ofChange s with cond := some uptoSmall }

/-- 'quoinlaw26.ApplyNames', WHERE WHAT IT READS IS OF BULK AT MOST 1048576: true; the input reads as it did. -/
def applyNamesUptoRow : OpenClaim := { program := "ytoljgjnbkejhaaa", sum := "71c1c49335202bb21e62ce940df7a05a3ea5376800b3d26477cef9f10362e9ff", func := "quoin/quoinlaw26.ApplyNames", spec := "applyNames", recurses := true, apart := false, narrowed := true }
def ApplyNamesUptoSaid : Prop := applyNamesUptoRow.holds Try.pinned (OpenSpec.upto applyNamesSpec)

/-- 'quoinlaw26.ApplyFixes', WHERE WHAT IT READS IS OF BULK AT MOST 1048576: true; the input reads as it did. -/
def applyFixesUptoRow : OpenClaim := { program := "ytoljgjnbkejhaaa", sum := "71c1c49335202bb21e62ce940df7a05a3ea5376800b3d26477cef9f10362e9ff", func := "quoin/quoinlaw26.ApplyFixes", spec := "applyFixes", recurses := true, apart := false, narrowed := true }
def ApplyFixesUptoSaid : Prop := applyFixesUptoRow.holds Try.pinned (OpenSpec.upto applyFixesSpec)

/-- 'quoinlaw26.ApplyParts', WHERE WHAT IT READS IS OF BULK AT MOST 1048576: true; the input reads as it did. -/
def applyPartsUptoRow : OpenClaim := { program := "ytoljgjnbkejhaaa", sum := "71c1c49335202bb21e62ce940df7a05a3ea5376800b3d26477cef9f10362e9ff", func := "quoin/quoinlaw26.ApplyParts", spec := "applyParts", recurses := true, apart := false, narrowed := true }
def ApplyPartsUptoSaid : Prop := applyPartsUptoRow.holds Try.pinned (OpenSpec.upto applyPartsSpec)

/-- 'quoinlaw26.ApplyWhole', WHERE WHAT IT READS IS OF BULK AT MOST 1048576: true; the input reads as it did. -/
def applyWholeUptoRow : OpenClaim := { program := "ytoljgjnbkejhaaa", sum := "71c1c49335202bb21e62ce940df7a05a3ea5376800b3d26477cef9f10362e9ff", func := "quoin/quoinlaw26.ApplyWhole", spec := "applyWhole", recurses := true, apart := false, narrowed := true }
def ApplyWholeUptoSaid : Prop := applyWholeUptoRow.holds Try.pinned (OpenSpec.upto applyWholeSpec)

/-- 'quoinlaw26.ApplyKeeps', WHERE WHAT IT READS IS OF BULK AT MOST 1048576: true; the input reads as it did. -/
def applyKeepsUptoRow : OpenClaim := { program := "ytoljgjnbkejhaaa", sum := "71c1c49335202bb21e62ce940df7a05a3ea5376800b3d26477cef9f10362e9ff", func := "quoin/quoinlaw26.ApplyKeeps", spec := "applyKeeps", recurses := true, apart := false, narrowed := true }
def ApplyKeepsUptoSaid : Prop := applyKeepsUptoRow.holds Try.pinned (OpenSpec.upto applyKeepsSpec)

/-- 'quoinlaw26.ApplyEven', WHERE WHAT IT READS IS OF BULK AT MOST 1048576: true; the input reads as it did. -/
def applyEvenUptoRow : OpenClaim := { program := "ytoljgjnbkejhaaa", sum := "71c1c49335202bb21e62ce940df7a05a3ea5376800b3d26477cef9f10362e9ff", func := "quoin/quoinlaw26.ApplyEven", spec := "applyEven", recurses := true, apart := false, narrowed := true }
def ApplyEvenUptoSaid : Prop := applyEvenUptoRow.holds Try.pinned (OpenSpec.upto applyEvenSpec)

end Rows
end Go.Proofs.Ytoljgjnbkejhaaa
