/- What expressions are, and how words of a line tell them, on lists: plain Lean, no program in sight. -/
import Derived.Test.YtgihgmniijhfoaaDoorZLexLaw2
namespace Go.Proofs.YtgihgmniijhfoaaDoor.Ex
open Go.Proofs.YtgihgmniijhfoaaDoor.Lex
set_option linter.unusedSimpArgs false
set_option linter.unusedVariables false
/-- An expression: its two words, its number, and what is made of it. -/
structure X where
  s : List UInt8
  l : List UInt8
  n : Int
  m : Nat
deriving DecidableEq, Inhabited
def x0 : X := ⟨[], [], 0, 0⟩
def w64 (n : Int) : Int := (n + 9223372036854775808) % 18446744073709551616 - 9223372036854775808
/-- May a text stand in a sum? -/
def wordL (s : List UInt8) : Bool := (nameL s || localL s) && !(s.getD 0 0 == 37)
def mk (c : UInt8) : Tok := ⟨4, [c], 0⟩
/-- One term more, with a sign. -/
def termT (t : Tok) (x : X) (minus : Bool) : Option X :=
  if t.k = 2 then some { x with n := w64 (x.n + if minus then w64 (-t.n) else t.n) }
  else if t.k = 1 then
    (if minus then (if x.l ≠ [] then none else if wordL t.t then some { x with l := t.t } else none)
     else if x.s ≠ [] then none else if wordL t.t then some { x with s := t.t } else none)
  else none
def startsT (t : Tok) : Bool := decide (t.k = 2) || (decide (t.k = 1) && wordL t.t)
/-- The terms behind the first one: what is left, and the expression. -/
def loopR : List Tok → X → Option (List Tok × X)
  | t :: u :: r, x =>
    if startsT u then
      (if t = mk 43 then (match termT u x false with | none => none | some y => loopR r y)
       else if t = mk 45 then (match termT u x true with | none => none | some y => loopR r y)
       else some (t :: u :: r, x))
    else some (t :: u :: r, x)
  | r, x => some (r, x)
def first (r : List Tok) (c : UInt8) : Bool := match r with | [] => false | t :: _ => decide (t = mk c)
def tailOf (r : List Tok) : List Tok := if first r 45 || first r 43 then r.tail else r
def sumR (r : List Tok) (x : X) : Option (List Tok × X) := match tailOf r with
  | [] => none
  | t :: r2 => match termT t x (first r 45) with
    | none => none
    | some y => match loopR r2 y with
      | none => none
      | some (r3, z) => if z.s ≠ [] ∨ z.l = [] then some (r3, z) else none
/-- The words that stand ahead. -/
def modName : Nat → List UInt8
  | 1 => [37, 104, 105]
  | 2 => [37, 108, 111]
  | 3 => [37, 112, 99, 114, 101, 108, 95, 104, 105]
  | 4 => [37, 112, 99, 114, 101, 108, 95, 108, 111]
  | _ => []
def modL (s : List UInt8) : Nat := if s = modName 1 then 1 else if s = modName 2 then 2 else if s = modName 3 then 3 else if s = modName 4 then 4 else 0
/-- The expression with which tokens go on; none: there is none. -/
def parseR (r : List Tok) : Option (List Tok × X) := match r with
  | [] => sumR [] x0
  | t :: r1 =>
    if t.k = 1 ∧ t.t.getD 0 0 = 37 then
      (if modL t.t = 0 then none else match r1 with
        | [] => none
        | u :: r2 => if u = mk 40 then (match sumR r2 { x0 with m := modL t.t } with
          | some (v :: r4, y) => if v = mk 41 then some (r4, y) else none
          | _ => none) else none)
    else sumR (t :: r1) x0
def parseL (l : List Tok) (a : Int) : X × Nat × Nat :=
  if l.all mayL = false then (x0, 0, 8)
  else if a < 0 ∨ (l.length : Int) < a then (x0, 0, 2)
  else match parseR (l.drop a.toNat) with
    | none => (x0, 0, 160)
    | some (r, y) => (y, l.length - r.length, 0)
def checkL (x : X) : Bool := (decide (x.s = []) || wordL x.s) && (decide (x.l = []) || (decide (x.s ≠ []) && wordL x.l)) && decide (x.m ≤ 4)
def toksX (x : X) : List Tok :=
  (if 0 < x.m then [⟨1, modName x.m, 0⟩, mk 40] else []) ++ (if x.s ≠ [] then [⟨1, x.s, 0⟩] else []) ++ (if x.l ≠ [] then [mk 45, ⟨1, x.l, 0⟩] else [])
  ++ (if x.n ≠ 0 ∨ x.s = [] then (if x.s ≠ [] then [mk 43] else []) ++ [⟨2, [], x.n⟩] else []) ++ (if 0 < x.m then [mk 41] else [])
def numX (x : X) : Prop := -9223372036854775808 ≤ x.n ∧ x.n < 9223372036854775808
theorem w64_id {n : Int} (h : -9223372036854775808 ≤ n ∧ n < 9223372036854775808) : w64 n = n := by unfold w64; omega
theorem w64_range (n : Int) : -9223372036854775808 ≤ w64 n ∧ w64 n < 9223372036854775808 := by unfold w64; omega
/-- What may stand behind a sum. -/
def Good (u : List Tok) : Prop := first u 43 = false ∧ first u 45 = false
theorem loop_good {u : List Tok} (h : Good u) (x : X) : loopR u x = some (u, x) := by
  match u, h with
  | [], _ => rfl
  | [t], _ => rfl
  | t :: v :: r, h =>
    have h1 : ¬ t = mk 43 := by simpa [first] using h.1
    have h2 : ¬ t = mk 45 := by simpa [first] using h.2
    simp only [loopR]
    rw [if_neg h1, if_neg h2]
    split <;> rfl
/-- What a term keeps. -/
structure Fine (x : X) : Prop where
  s : x.s = [] ∨ wordL x.s = true
  l : x.l = [] ∨ wordL x.l = true
  n : numX x
theorem term_fine {t : Tok} {x y : X} {b : Bool} (hx : Fine x) (h : termT t x b = some y) : Fine y ∧ y.m = x.m := by
  unfold termT at h
  split at h
  · cases h
    exact ⟨⟨hx.s, hx.l, w64_range _⟩, rfl⟩
  split at h
  · split at h
    · split at h
      · cases h
      · split at h
        · rename_i hw
          cases h
          exact ⟨⟨hx.s, .inr hw, hx.n⟩, rfl⟩
        · cases h
    · split at h
      · cases h
      · split at h
        · rename_i hw
          cases h
          exact ⟨⟨.inr hw, hx.l, hx.n⟩, rfl⟩
        · cases h
  · cases h
theorem loop_law : ∀ (r : List Tok) (x : X) (r3 : List Tok) (y : X), Fine x → loopR r x = some (r3, y) →
    Fine y ∧ y.m = x.m ∧ ∃ used, r = used ++ r3 ∧ ∀ u, Good u → loopR (used ++ u) x = some (u, y)
  | [], x, r3, y, hx, h => by
    cases h
    exact ⟨hx, rfl, [], rfl, fun u hu => loop_good hu x⟩
  | [t], x, r3, y, hx, h => by
    cases h
    exact ⟨hx, rfl, [], rfl, fun u hu => loop_good hu x⟩
  | t :: v :: r, x, r3, y, hx, h => by
    simp only [loopR] at h
    by_cases hs : startsT v = true
    · rw [if_pos hs] at h
      by_cases h1 : t = mk 43
      · rw [if_pos h1] at h
        cases ht : termT v x false with
        | none => rw [ht] at h; cases h
        | some z =>
          rw [ht] at h
          obtain ⟨f, m⟩ := term_fine hx ht
          obtain ⟨g, m2, used, e, hu⟩ := loop_law r z r3 y f h
          refine ⟨g, m2.trans m, t :: v :: used, by rw [e]; rfl, fun u hg => ?_⟩
          simp only [List.cons_append, loopR]
          rw [if_pos hs, if_pos h1, ht]
          exact hu u hg
      · rw [if_neg h1] at h
        by_cases h2 : t = mk 45
        · rw [if_pos h2] at h
          cases ht : termT v x true with
          | none => rw [ht] at h; cases h
          | some z =>
            rw [ht] at h
            obtain ⟨f, m⟩ := term_fine hx ht
            obtain ⟨g, m2, used, e, hu⟩ := loop_law r z r3 y f h
            refine ⟨g, m2.trans m, t :: v :: used, by rw [e]; rfl, fun u hg => ?_⟩
            simp only [List.cons_append, loopR]
            rw [if_pos hs, if_neg h1, if_pos h2, ht]
            exact hu u hg
        · rw [if_neg h2] at h
          cases h
          exact ⟨hx, rfl, [], rfl, fun u hu => loop_good hu x⟩
    · rw [if_neg hs] at h
      cases h
      exact ⟨hx, rfl, [], rfl, fun u hu => loop_good hu x⟩
theorem first_app {t : Tok} {r u : List Tok} (c : UInt8) : first ((t :: r) ++ u) c = first (t :: r) c := rfl
theorem sum_law {r r3 : List Tok} {x y : X} (hx : Fine x) (h : sumR r x = some (r3, y)) :
    Fine y ∧ y.m = x.m ∧ (y.s ≠ [] ∨ y.l = []) ∧ ∃ used, used ≠ [] ∧ r = used ++ r3 ∧ ∀ u, Good u → sumR (used ++ u) x = some (u, y) := by
  cases r with
  | nil => simp [sumR, tailOf, first] at h
  | cons t r =>
    unfold sumR at h
    have key : ∀ (a : Tok) (q : List Tok), (match termT a x (first (t :: r) 45) with
        | none => none
        | some y => match loopR q y with
          | none => none
          | some (r3, z) => if z.s ≠ [] ∨ z.l = [] then some (r3, z) else none) = some (r3, y) →
        Fine y ∧ y.m = x.m ∧ (y.s ≠ [] ∨ y.l = []) ∧ ∃ used, q = used ++ r3 ∧ ∀ u, Good u → (match termT a x (first (t :: r) 45) with
          | none => none
          | some y => match loopR (used ++ u) y with
            | none => none
            | some (r3, z) => if z.s ≠ [] ∨ z.l = [] then some (r3, z) else none) = some (u, y) := by
      intro a q h
      cases ht : termT a x (first (t :: r) 45) with
      | none => rw [ht] at h; cases h
      | some z =>
        rw [ht] at h
        simp only at h
        cases hl : loopR q z with
        | none => rw [hl] at h; cases h
        | some p =>
          obtain ⟨r4, v⟩ := p
          rw [hl] at h
          simp only at h
          by_cases hc : v.s ≠ [] ∨ v.l = []
          · rw [if_pos hc] at h
            cases h
            obtain ⟨f, m⟩ := term_fine hx ht
            obtain ⟨g, m2, used, e, hu⟩ := loop_law q z r3 y f hl
            refine ⟨g, m2.trans m, hc, used, e, fun u hg => ?_⟩
            simp only
            rw [hu u hg]
            simp only
            rw [if_pos hc]
          · rw [if_neg hc] at h
            cases h
    by_cases hs : (first (t :: r) 45 || first (t :: r) 43) = true
    · have e1 : tailOf (t :: r) = r := if_pos hs
      rw [e1] at h
      cases r with
      | nil => cases h
      | cons a q =>
        obtain ⟨f, m, c, used, e, hu⟩ := key a q h
        refine ⟨f, m, c, t :: a :: used, by simp, by rw [e]; rfl, fun u hg => ?_⟩
        unfold sumR
        have e2 : tailOf ((t :: a :: used) ++ u) = a :: (used ++ u) := if_pos hs
        rw [e2]
        exact hu u hg
    · have e1 : tailOf (t :: r) = t :: r := if_neg hs
      rw [e1] at h
      obtain ⟨f, m, c, used, e, hu⟩ := key t r h
      refine ⟨f, m, c, t :: used, by simp, by rw [e]; rfl, fun u hg => ?_⟩
      unfold sumR
      have e2 : tailOf ((t :: used) ++ u) = t :: (used ++ u) := if_neg hs
      rw [e2]
      exact hu u hg
theorem mod_le (s : List UInt8) : modL s ≤ 4 := by unfold modL; repeat' split <;> try omega
theorem mod_name {s : List UInt8} (h : modL s ≠ 0) : modName (modL s) = s := by
  unfold modL at h ⊢
  split
  · rename_i e; rw [e]
  split
  · rename_i e; rw [e]
  split
  · rename_i e; rw [e]
  split
  · rename_i e; rw [e]
  · simp_all
theorem fine0 (m : Nat) : Fine { x0 with m := m } := ⟨.inl rfl, .inl rfl, by show -9223372036854775808 ≤ (0 : Int) ∧ (0 : Int) < 9223372036854775808; omega⟩
theorem check_of {y : X} (f : Fine y) (c : y.s ≠ [] ∨ y.l = []) (hm : y.m ≤ 4) : checkL y = true := by
  unfold checkL
  rw [decide_eq_true hm]
  rcases c with c | c <;> rcases f.s with h | h <;> rcases f.l with g | g <;> simp_all
theorem parse_law {r r3 : List Tok} {y : X} (h : parseR r = some (r3, y)) :
    checkL y = true ∧ numX y ∧ ∃ used, used ≠ [] ∧ r = used ++ r3 ∧ ∀ u, Good u → parseR (used ++ u) = some (u, y) := by
  cases r with
  | nil => simp [parseR, sumR, tailOf, first] at h
  | cons t r1 =>
    simp only [parseR] at h
    by_cases hp : t.k = 1 ∧ t.t.getD 0 0 = 37
    · rw [if_pos hp] at h
      by_cases hm : modL t.t = 0
      · rw [if_pos hm] at h; cases h
      · rw [if_neg hm] at h
        cases r1 with
        | nil => cases h
        | cons u r2 =>
          simp only at h
          by_cases hu : u = mk 40
          · rw [if_pos hu] at h
            cases hs : sumR r2 { x0 with m := modL t.t } with
            | none => rw [hs] at h; cases h
            | some p =>
              obtain ⟨q, z⟩ := p
              rw [hs] at h
              cases q with
              | nil => cases h
              | cons v r4 =>
                simp only at h
                by_cases hv : v = mk 41
                · rw [if_pos hv] at h
                  cases h
                  obtain ⟨f, m, c, used, hne, e, hl⟩ := sum_law (fine0 _) hs
                  refine ⟨check_of f c (by rw [m]; exact mod_le _), f.n, t :: u :: (used ++ [v]), by simp, by rw [e]; simp, fun w hg => ?_⟩
                  simp only [List.cons_append, parseR, List.append_assoc, List.nil_append]
                  rw [if_pos hp, if_neg hm, if_pos hu, hl (v :: w) ⟨by rw [hv]; rfl, by rw [hv]; rfl⟩]
                  simp only
                  rw [if_pos hv]
                · rw [if_neg hv] at h; cases h
          · rw [if_neg hu] at h; cases h
    · rw [if_neg hp] at h
      obtain ⟨f, m, c, used, hne, e, hl⟩ := sum_law (fine0 0) h
      refine ⟨check_of f c (by rw [m]; exact Nat.zero_le _), f.n, used, hne, e, fun u hg => ?_⟩
      cases used with
      | nil => exact absurd rfl hne
      | cons a used =>
        simp only [List.cons_append] at e hl ⊢
        injection e with e1 e2
        subst e1
        simp only [parseR]
        rw [if_neg hp]
        exact hl u hg
end Go.Proofs.YtgihgmniijhfoaaDoor.Ex
