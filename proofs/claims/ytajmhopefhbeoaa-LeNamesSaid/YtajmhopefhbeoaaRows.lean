/-
  No cell of these rows narrows 'for every input' (looked for: loops, veiled, ifaces, maps, wideKeys, modest, calm, conditions, laid).
  DERIVED. THE GIVEN ROWS OF THIS SEAT. 6 by the template 'for every input the law returns true; each argument reads behind the call as it read before'; 0 by the template 'total and deterministic' (their statements: YtajmhopefhbeoaaTotals.lean).
  GIVEN WITH THE SEED: the statements are not yours to turn. If you find one false, say at which input.
  Laid BY PROGRAM, IN A SANDBOX (cutbox-rows.mjs): the forced cells as the released guide's own fill.sh prints them over the translation 78e7bb1209c28e5b… (all of the seat's roots in one cut). By AI agents, Wed Nov 11 2026. No macro, syntax, notation, axiom, sorry.
-/
import Derived.Test.YtajmhopefhbeoaaChecked
import GoSem.Claim
import GoSem.ClaimJoined
import GoSem.ClaimMapViews
import Derived.JoinedTies
import Derived.KernelRfl
namespace Go.Proofs.Ytajmhopefhbeoaa
/- THE CELL 'sum', in the pinned program and in every row, IS THE sha256 OF THE DUMP (.gsa) THAT YtajmhopefhbeoaaProg.lean LOADS. Nothing in Lean hashes anything: it is a label: what it is worth is what the hold of that sum in a sandbox is worth. -/
noncomputable def Try.pinned : Pinned := { name := "ytajmhopefhbeoaa", sum := "78e7bb1209c28e5b48d9c7bfbc97984e86932f99329aedca3f7bec7dcded8931", checked := Try.checked }
namespace Rows
def none {H : Type} : Left H := { results := [], args := [] }

/-- 'quoinlaw07.LeBack': WHATEVER THE INPUT: true; the input reads as it did. -/
def leBackSpec : ChangeSpec := { name := "leBack", fn := fun _ => fun
  | [d1, d2, d3, d4, d5] => { results := [.lit (.bool true)], args := [d1, d2, d3, d4, d5] }
  | _ => none }
def leBackRow : OpenClaim := { program := "ytajmhopefhbeoaa", sum := "78e7bb1209c28e5b48d9c7bfbc97984e86932f99329aedca3f7bec7dcded8931", func := "quoin/quoinlaw07.LeBack", spec := "leBack", apart := false }
def LeBackSaid : Prop := leBackRow.holds Try.pinned (OpenSpec.ofChange leBackSpec)

/-- ITS FALSE NEIGHBOUR: 'it returns false'. Refute it at one input. -/
def leBackWrong : ChangeSpec := { name := "leBack", fn := fun _ => fun
  | [d1, d2, d3, d4, d5] => { results := [.lit (.bool false)], args := [d1, d2, d3, d4, d5] }
  | _ => none }
def LeBackWrongFalsely : Prop := leBackRow.holds Try.pinned (OpenSpec.ofChange leBackWrong)

/-- 'quoinlaw07.LeBounds': WHATEVER THE INPUT: true; the input reads as it did. -/
def leBoundsSpec : ChangeSpec := { name := "leBounds", fn := fun _ => fun
  | [d1, d2, d3, d4] => { results := [.lit (.bool true)], args := [d1, d2, d3, d4] }
  | _ => none }
def leBoundsRow : OpenClaim := { program := "ytajmhopefhbeoaa", sum := "78e7bb1209c28e5b48d9c7bfbc97984e86932f99329aedca3f7bec7dcded8931", func := "quoin/quoinlaw07.LeBounds", spec := "leBounds", apart := false }
def LeBoundsSaid : Prop := leBoundsRow.holds Try.pinned (OpenSpec.ofChange leBoundsSpec)

/-- ITS FALSE NEIGHBOUR: 'it returns false'. Refute it at one input. -/
def leBoundsWrong : ChangeSpec := { name := "leBounds", fn := fun _ => fun
  | [d1, d2, d3, d4] => { results := [.lit (.bool false)], args := [d1, d2, d3, d4] }
  | _ => none }
def LeBoundsWrongFalsely : Prop := leBoundsRow.holds Try.pinned (OpenSpec.ofChange leBoundsWrong)

/-- 'quoinlaw07.LeNames': WHATEVER THE INPUT: true; the input reads as it did. -/
def leNamesSpec : ChangeSpec := { name := "leNames", fn := fun _ => fun
  | [] => { results := [.lit (.bool true)], args := [] }
  | _ => none }
def leNamesRow : OpenClaim := { program := "ytajmhopefhbeoaa", sum := "78e7bb1209c28e5b48d9c7bfbc97984e86932f99329aedca3f7bec7dcded8931", func := "quoin/quoinlaw07.LeNames", spec := "leNames", apart := false }
def LeNamesSaid : Prop := leNamesRow.holds Try.pinned (OpenSpec.ofChange leNamesSpec)

/-- ITS FALSE NEIGHBOUR: 'it returns false'. Refute it at one input. -/
def leNamesWrong : ChangeSpec := { name := "leNames", fn := fun _ => fun
  | [] => { results := [.lit (.bool false)], args := [] }
  | _ => none }
def LeNamesWrongFalsely : Prop := leNamesRow.holds Try.pinned (OpenSpec.ofChange leNamesWrong)

/-- 'quoinlaw07.LeCodes': WHATEVER THE INPUT: true; the input reads as it did. -/
def leCodesSpec : ChangeSpec := { name := "leCodes", fn := fun _ => fun
  | [d1, d2, d3, d4, d5] => { results := [.lit (.bool true)], args := [d1, d2, d3, d4, d5] }
  | _ => none }
def leCodesRow : OpenClaim := { program := "ytajmhopefhbeoaa", sum := "78e7bb1209c28e5b48d9c7bfbc97984e86932f99329aedca3f7bec7dcded8931", func := "quoin/quoinlaw07.LeCodes", spec := "leCodes", apart := false }
def LeCodesSaid : Prop := leCodesRow.holds Try.pinned (OpenSpec.ofChange leCodesSpec)

/-- ITS FALSE NEIGHBOUR: 'it returns false'. Refute it at one input. -/
def leCodesWrong : ChangeSpec := { name := "leCodes", fn := fun _ => fun
  | [d1, d2, d3, d4, d5] => { results := [.lit (.bool false)], args := [d1, d2, d3, d4, d5] }
  | _ => none }
def LeCodesWrongFalsely : Prop := leCodesRow.holds Try.pinned (OpenSpec.ofChange leCodesWrong)

/-- 'quoinlaw07.LePads': WHATEVER THE INPUT: true; the input reads as it did. -/
def lePadsSpec : ChangeSpec := { name := "lePads", fn := fun _ => fun
  | [d1, d2] => { results := [.lit (.bool true)], args := [d1, d2] }
  | _ => none }
def lePadsRow : OpenClaim := { program := "ytajmhopefhbeoaa", sum := "78e7bb1209c28e5b48d9c7bfbc97984e86932f99329aedca3f7bec7dcded8931", func := "quoin/quoinlaw07.LePads", spec := "lePads", apart := false }
def LePadsSaid : Prop := lePadsRow.holds Try.pinned (OpenSpec.ofChange lePadsSpec)

/-- ITS FALSE NEIGHBOUR: 'it returns false'. Refute it at one input. -/
def lePadsWrong : ChangeSpec := { name := "lePads", fn := fun _ => fun
  | [d1, d2] => { results := [.lit (.bool false)], args := [d1, d2] }
  | _ => none }
def LePadsWrongFalsely : Prop := lePadsRow.holds Try.pinned (OpenSpec.ofChange lePadsWrong)

/-- 'quoinlaw07.LeParts': WHATEVER THE INPUT: true; the input reads as it did. -/
def lePartsSpec : ChangeSpec := { name := "leParts", fn := fun _ => fun
  | [d1, d2, d3, d4, d5] => { results := [.lit (.bool true)], args := [d1, d2, d3, d4, d5] }
  | _ => none }
def lePartsRow : OpenClaim := { program := "ytajmhopefhbeoaa", sum := "78e7bb1209c28e5b48d9c7bfbc97984e86932f99329aedca3f7bec7dcded8931", func := "quoin/quoinlaw07.LeParts", spec := "leParts", apart := false }
def LePartsSaid : Prop := lePartsRow.holds Try.pinned (OpenSpec.ofChange lePartsSpec)

/-- ITS FALSE NEIGHBOUR: 'it returns false'. Refute it at one input. -/
def lePartsWrong : ChangeSpec := { name := "leParts", fn := fun _ => fun
  | [d1, d2, d3, d4, d5] => { results := [.lit (.bool false)], args := [d1, d2, d3, d4, d5] }
  | _ => none }
def LePartsWrongFalsely : Prop := lePartsRow.holds Try.pinned (OpenSpec.ofChange lePartsWrong)

/- THE SECOND FORM. 'bulk': how many values and letters a reading holds, each counted each time it is reached (what is shared counts as often as it is met; a slice's spare places count too). A statement '..UptoSaid' is the law's where the arguments, and the package variables that the reading takes, are together of bulk at most 1048576: NARROWER than '..Said'. Prove '..Said' where nothing that the law and all that it calls make is longer than what came in: it says more and counts as full. Else prove '..UptoSaid'. A law counts once. -/
mutual
def uptoBulk {H : Type} : DataW H → Nat
  | .lit (.string bytes) => bytes.length + 1
  | .lit _ => 1
  | .nil => 1
  | .ptr d => uptoBulk d + 1
  | .slice elems spare => uptoBulkAll elems + uptoBulkAll spare + 1
  | .agg parts => uptoBulkAll parts + 1
  | .iface _ d => uptoBulk d + 1
  | .map entries => uptoBulkEntries entries + 1
  | .held _ => 1
def uptoBulkAll {H : Type} : List (DataW H) → Nat
  | [] => 0
  | d :: r => uptoBulk d + uptoBulkAll r
def uptoBulkEntries {H : Type} : List (Lit × DataW H) → Nat
  | [] => 0
  | x :: r => uptoBulkEntry x + uptoBulkEntries r
def uptoBulkEntry {H : Type} : Lit × DataW H → Nat
  | (.string bytes, d) => bytes.length + uptoBulk d + 1
  | (_, d) => uptoBulk d + 1
 end
def uptoSmall : (H : Type) → List (DataW H) → Bool := fun _ ds => decide (uptoBulkAll ds ≤ 1048576)
def OpenSpec.upto (s : _root_.Go.ChangeSpec) : _root_.Go.OpenSpec := { _root_.Go.OpenSpec.ofChange s with cond := some uptoSmall }

/-- 'quoinlaw07.LeBack', WHERE WHAT IT READS IS OF BULK AT MOST 1048576: true; the input reads as it did. -/
def leBackUptoRow : OpenClaim := { program := "ytajmhopefhbeoaa", sum := "78e7bb1209c28e5b48d9c7bfbc97984e86932f99329aedca3f7bec7dcded8931", func := "quoin/quoinlaw07.LeBack", spec := "leBack", apart := false, narrowed := true }
def LeBackUptoSaid : Prop := leBackUptoRow.holds Try.pinned (OpenSpec.upto leBackSpec)

/-- 'quoinlaw07.LeBounds', WHERE WHAT IT READS IS OF BULK AT MOST 1048576: true; the input reads as it did. -/
def leBoundsUptoRow : OpenClaim := { program := "ytajmhopefhbeoaa", sum := "78e7bb1209c28e5b48d9c7bfbc97984e86932f99329aedca3f7bec7dcded8931", func := "quoin/quoinlaw07.LeBounds", spec := "leBounds", apart := false, narrowed := true }
def LeBoundsUptoSaid : Prop := leBoundsUptoRow.holds Try.pinned (OpenSpec.upto leBoundsSpec)

/-- 'quoinlaw07.LeNames', WHERE WHAT IT READS IS OF BULK AT MOST 1048576: true; the input reads as it did. -/
def leNamesUptoRow : OpenClaim := { program := "ytajmhopefhbeoaa", sum := "78e7bb1209c28e5b48d9c7bfbc97984e86932f99329aedca3f7bec7dcded8931", func := "quoin/quoinlaw07.LeNames", spec := "leNames", apart := false, narrowed := true }
def LeNamesUptoSaid : Prop := leNamesUptoRow.holds Try.pinned (OpenSpec.upto leNamesSpec)

/-- 'quoinlaw07.LeCodes', WHERE WHAT IT READS IS OF BULK AT MOST 1048576: true; the input reads as it did. -/
def leCodesUptoRow : OpenClaim := { program := "ytajmhopefhbeoaa", sum := "78e7bb1209c28e5b48d9c7bfbc97984e86932f99329aedca3f7bec7dcded8931", func := "quoin/quoinlaw07.LeCodes", spec := "leCodes", apart := false, narrowed := true }
def LeCodesUptoSaid : Prop := leCodesUptoRow.holds Try.pinned (OpenSpec.upto leCodesSpec)

/-- 'quoinlaw07.LePads', WHERE WHAT IT READS IS OF BULK AT MOST 1048576: true; the input reads as it did. -/
def lePadsUptoRow : OpenClaim := { program := "ytajmhopefhbeoaa", sum := "78e7bb1209c28e5b48d9c7bfbc97984e86932f99329aedca3f7bec7dcded8931", func := "quoin/quoinlaw07.LePads", spec := "lePads", apart := false, narrowed := true }
def LePadsUptoSaid : Prop := lePadsUptoRow.holds Try.pinned (OpenSpec.upto lePadsSpec)

/-- 'quoinlaw07.LeParts', WHERE WHAT IT READS IS OF BULK AT MOST 1048576: true; the input reads as it did. -/
def lePartsUptoRow : OpenClaim := { program := "ytajmhopefhbeoaa", sum := "78e7bb1209c28e5b48d9c7bfbc97984e86932f99329aedca3f7bec7dcded8931", func := "quoin/quoinlaw07.LeParts", spec := "leParts", apart := false, narrowed := true }
def LePartsUptoSaid : Prop := lePartsUptoRow.holds Try.pinned (OpenSpec.upto lePartsSpec)

end Rows
end Go.Proofs.Ytajmhopefhbeoaa
