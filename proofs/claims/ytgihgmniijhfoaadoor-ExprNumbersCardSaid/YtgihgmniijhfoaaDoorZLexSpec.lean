/- What the words of a line are, on lists of bytes: plain Lean, no program in sight. -/
import Init
namespace Go.Proofs.YtgihgmniijhfoaaDoor.Lex
set_option linter.unusedSimpArgs false
set_option linter.unusedVariables false

/-- The byte that a text has where a line has this one behind a stroke back. -/
def escL (c : UInt8) : Option UInt8 := if c = 110 then some 10 else if c = 116 then some 9 else if c = 48 then some 0 else if c = 34 then some 34 else if c = 92 then some 92 else none
/-- And back; 0: nothing stands behind a stroke for it. -/
def unescL (c : UInt8) : UInt8 := if c = 10 then 110 else if c = 9 then 116 else if c = 0 then 48 else if c = 34 then 34 else if c = 92 then 92 else 0
def plainC (c : UInt8) : Bool := 32 ≤ c && c ≤ 126
/-- The text that goes on, its first quote not counted, and how many bytes it has with the last quote; 0: none. -/
def quotedL : List UInt8 → Nat → List UInt8 → List UInt8 × Nat
  | [], _, _ => ([], 0)
  | [c], i, b => if c = 34 then (b, i + 1) else ([], 0)
  | c :: x :: t, i, b =>
    if c = 34 then (b, i + 1)
    else if c = 92 then (match escL x with | none => ([], 0) | some y => quotedL t (i + 2) (b ++ [y]))
    else if plainC c then quotedL (x :: t) (i + 1) (b ++ [c]) else ([], 0)
def digitC (c : UInt8) : Bool := 48 ≤ c && c ≤ 57
def startC (c : UInt8) : Bool := (97 ≤ c && c ≤ 122) || (65 ≤ c && c ≤ 90) || c == 95 || c == 46 || c == 36 || c == 37
def insideC (c : UInt8) : Bool := startC c && c != 37 || digitC c
def markC (c : UInt8) : Bool := c == 44 || c == 40 || c == 41 || c == 43 || c == 45 || c == 58
def hexC (c : UInt8) : Bool := digitC c || (97 ≤ c && c ≤ 102) || (65 ≤ c && c ≤ 70)
/-- How many bytes are so, from the beginning on. -/
def many (p : UInt8 → Bool) : List UInt8 → Nat
  | [] => 0
  | c :: t => if p c then many p t + 1 else 0
def nameL (l : List UInt8) : Bool := match l with | [] => false | c :: t => decide (t.length < 32) && startC c && decide (many insideC t = t.length)
def localL (l : List UInt8) : Bool := decide (1 ≤ many digitC l) && decide (many digitC l ≤ 9) && decide (l.length = many digitC l + 1) && (l.getD (many digitC l) 0 == 102 || l.getD (many digitC l) 0 == 98)
def hexVal (c : UInt8) : Nat := if digitC c then c.toNat - 48 else if 97 ≤ c then c.toNat - 87 else c.toNat - 55
def hexNat (l : List UInt8) : Nat := l.foldl (fun a c => a * 16 + hexVal c) 0
def decNat (l : List UInt8) : Nat := l.foldl (fun a c => a * 10 + (c.toNat - 48)) 0
def toI64 (n : Nat) : Int := if n < 9223372036854775808 then n else (n : Int) - 18446744073709551616
/-- The number with which a text begins, and how many bytes it has; 0: none. -/
def numL (l : List UInt8) : Int × Nat :=
  if 2 < l.length ∧ l.take 2 = [48, 120] then
    (if many hexC (l.drop 2) = 0 ∨ 16 < many hexC (l.drop 2) then (0, 0) else (toI64 (hexNat ((l.drop 2).take (many hexC (l.drop 2)))), many hexC (l.drop 2) + 2))
  else if many digitC l = 0 ∨ 18 < many digitC l then (0, 0) else ((decNat (l.take (many digitC l)) : Int), many digitC l)
/-- A token: its kind, its text, its number. -/
structure Tok where
  k : Nat
  t : List UInt8
  n : Int
deriving DecidableEq, Inhabited
def noTok : Tok × Nat := (⟨0, [], 0⟩, 0)
/-- The token with which a line goes on, and how many bytes it has; 0: none. -/
def nextL (l : List UInt8) : Tok × Nat := match l with
  | [] => noTok
  | c :: r =>
    if markC c then (⟨4, [c], 0⟩, 1)
    else if c = 34 then (if (quotedL r 0 []).2 = 0 then noTok else (⟨3, (quotedL r 0 []).1, 0⟩, (quotedL r 0 []).2 + 1))
    else if startC c then (if nameL (l.take (1 + many insideC r)) then (⟨1, l.take (1 + many insideC r), 0⟩, 1 + many insideC r) else noTok)
    else if localL (l.take (many insideC l)) then (⟨1, l.take (many insideC l), 0⟩, many insideC l)
    else if (numL l).2 = 0 ∨ (numL l).2 ≠ many insideC l then noTok else (⟨2, [], (numL l).1⟩, many insideC l)
/-- A line's words, behind those that are there: with so many steps. -/
def toksL : Nat → List UInt8 → List Tok → List Tok × Nat
  | 0, _, out => (out, 0)
  | _ + 1, [], out => (out, 0)
  | k + 1, c :: r, out =>
    if c = 32 ∨ c = 9 then toksL k r out
    else if c = 35 then (out, 0)
    else if (nextL (c :: r)).2 = 0 then ([], 150)
    else if out.length = 64 then ([], 4)
    else toksL k ((c :: r).drop (nextL (c :: r)).2) (out ++ [(nextL (c :: r)).1])
def tokensL (l : List UInt8) : List Tok × Nat := if 256 < l.length then ([], 3) else toksL l.length l []
/-- A text, as a line tells it, behind what is there; none: a byte can't be told. -/
def shownL : List UInt8 → List UInt8 → Option (List UInt8)
  | [], b => some (b ++ [34])
  | c :: t, b => if unescL c ≠ 0 then shownL t (b ++ [92, unescL c]) else if plainC c then shownL t (b ++ [c]) else none
def hexDig (n : Nat) : UInt8 := if n < 10 then UInt8.ofNat (48 + n) else UInt8.ofNat (87 + n)
def decDig (n : Nat) : UInt8 := UInt8.ofNat (48 + n)
/-- So many digits of a number. -/
def hexPad : Nat → Nat → List UInt8
  | 0, _ => []
  | k + 1, n => hexPad k (n / 16) ++ [hexDig (n % 16)]
def decL (n : Nat) : List UInt8 := if n < 10 then [decDig n] else decL (n / 10) ++ [decDig (n % 10)]
def ofI64 (n : Int) : Nat := (n % 18446744073709551616).toNat
/-- A token, as a line tells it; false: it may not be. -/
def textL (x : Tok) : List UInt8 × Bool :=
  if x.k = 1 then (x.t, decide (x.n = 0) && (nameL x.t || localL x.t))
  else if x.k = 4 then (x.t, decide (x.n = 0) && decide (x.t.length = 1) && markC (x.t.getD 0 0))
  else if x.k = 3 then (match shownL x.t [34] with | none => ([], false) | some s => (s, decide (x.n = 0) && decide (x.t.length ≤ 256)))
  else if x.k = 2 then (if 0 ≤ x.n ∧ x.n < 1000000000000000000 then (decL x.n.toNat, decide (x.t = [])) else ([48, 120] ++ hexPad 16 (ofI64 x.n), decide (x.t = [])))
  else ([], false)
def mayL (x : Tok) : Bool := (textL x).2
/-- Texts, a blank between. -/
def joinL : List (List UInt8) → List UInt8
  | [] => []
  | [a] => a
  | a :: b :: l => a ++ 32 :: joinL (b :: l)
/-- A line of some tokens. -/
def writeL (l : List Tok) : List UInt8 × Nat :=
  if 64 < l.length then ([], 4)
  else if l.all mayL = false then ([], 8)
  else if 256 < (joinL (l.map fun x => (textL x).1)).length then ([], 3)
  else (joinL (l.map fun x => (textL x).1), 0)
end Go.Proofs.YtgihgmniijhfoaaDoor.Lex
