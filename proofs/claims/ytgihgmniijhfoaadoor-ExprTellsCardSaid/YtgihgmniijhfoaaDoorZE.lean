/- Texts of this seat in one (ZExprSpec, ZExprLaw, ZExprRef). Joined by merge.py, a program of this session. -/
import Derived.Test.YtgihgmniijhfoaaDoorZL
namespace Go.Proofs.YtgihgmniijhfoaaDoor.Ex
open Go.Proofs.YtgihgmniijhfoaaDoor.Lex
set_option linter.unusedSimpArgs false
set_option linter.unusedVariables false
/-- An expression: its two words, its number, and what is made of it. -/
structure X where
  s : List UInt8
  l : List UInt8
  n : Int
  m : Nat
deriving DecidableEq, Inhabited
def x0 : X := ⟨[], [], 0, 0⟩
def w64 (n : Int) : Int := (n + 9223372036854775808) % 18446744073709551616 - 9223372036854775808
/-- May a text stand in a sum? -/
def wordL (s : List UInt8) : Bool := (nameL s || localL s) && !(s.getD 0 0 == 37)
def mk (c : UInt8) : Tok := ⟨4, [c], 0⟩
/-- One term more, with a sign. -/
def termT (t : Tok) (x : X) (minus : Bool) : Option X :=
  if t.k = 2 then some { x with n := w64 (x.n + if minus then w64 (-t.n) else t.n) }
  else if t.k = 1 then
    (if minus then (if x.l ≠ [] then none else if wordL t.t then some { x with l := t.t } else none)
     else if x.s ≠ [] then none else if wordL t.t then some { x with s := t.t } else none)
  else none
def startsT (t : Tok) : Bool := decide (t.k = 2) || (decide (t.k = 1) && wordL t.t)
/-- The terms behind the first one: what is left, and the expression. -/
def loopR : List Tok → X → Option (List Tok × X)
  | t :: u :: r, x =>
    if startsT u then
      (if t = mk 43 then (match termT u x false with | none => none | some y => loopR r y)
       else if t = mk 45 then (match termT u x true with | none => none | some y => loopR r y)
       else some (t :: u :: r, x))
    else some (t :: u :: r, x)
  | r, x => some (r, x)
def first (r : List Tok) (c : UInt8) : Bool := match r with | [] => false | t :: _ => decide (t = mk c)
def tailOf (r : List Tok) : List Tok := if first r 45 || first r 43 then r.tail else r
def sumR (r : List Tok) (x : X) : Option (List Tok × X) := match tailOf r with
  | [] => none
  | t :: r2 => match termT t x (first r 45) with
    | none => none
    | some y => match loopR r2 y with
      | none => none
      | some (r3, z) => if z.s ≠ [] ∨ z.l = [] then some (r3, z) else none
/-- The words that stand ahead. -/
def modName : Nat → List UInt8
  | 1 => [37, 104, 105]
  | 2 => [37, 108, 111]
  | 3 => [37, 112, 99, 114, 101, 108, 95, 104, 105]
  | 4 => [37, 112, 99, 114, 101, 108, 95, 108, 111]
  | _ => []
def modL (s : List UInt8) : Nat := if s = modName 1 then 1 else if s = modName 2 then 2 else if s = modName 3 then 3 else if s = modName 4 then 4 else 0
/-- The expression with which tokens go on; none: there is none. -/
def parseR (r : List Tok) : Option (List Tok × X) := match r with
  | [] => sumR [] x0
  | t :: r1 =>
    if t.k = 1 ∧ t.t.getD 0 0 = 37 then
      (if modL t.t = 0 then none else match r1 with
        | [] => none
        | u :: r2 => if u = mk 40 then (match sumR r2 { x0 with m := modL t.t } with
          | some (v :: r4, y) => if v = mk 41 then some (r4, y) else none
          | _ => none) else none)
    else sumR (t :: r1) x0
def parseL (l : List Tok) (a : Int) : X × Nat × Nat :=
  if l.all mayL = false then (x0, 0, 8)
  else if a < 0 ∨ (l.length : Int) < a then (x0, 0, 2)
  else match parseR (l.drop a.toNat) with
    | none => (x0, 0, 160)
    | some (r, y) => (y, l.length - r.length, 0)
def checkL (x : X) : Bool := (decide (x.s = []) || wordL x.s) && (decide (x.l = []) || (decide (x.s ≠ []) && wordL x.l)) && decide (x.m ≤ 4)
def toksX (x : X) : List Tok :=
  (if 0 < x.m then [⟨1, modName x.m, 0⟩, mk 40] else []) ++ (if x.s ≠ [] then [⟨1, x.s, 0⟩] else []) ++ (if x.l ≠ [] then [mk 45, ⟨1, x.l, 0⟩] else [])
  ++ (if x.n ≠ 0 ∨ x.s = [] then (if x.s ≠ [] then [mk 43] else []) ++ [⟨2, [], x.n⟩] else []) ++ (if 0 < x.m then [mk 41] else [])
def numX (x : X) : Prop := -9223372036854775808 ≤ x.n ∧ x.n < 9223372036854775808
theorem w64_id {n : Int} (h : -9223372036854775808 ≤ n ∧ n < 9223372036854775808) : w64 n = n := by unfold w64; omega
theorem w64_range (n : Int) : -9223372036854775808 ≤ w64 n ∧ w64 n < 9223372036854775808 := by unfold w64; omega
/-- What may stand behind a sum. -/
def Good (u : List Tok) : Prop := first u 43 = false ∧ first u 45 = false
theorem loop_good {u : List Tok} (h : Good u) (x : X) : loopR u x = some (u, x) := by
  match u, h with
  | [], _ => rfl
  | [t], _ => rfl
  | t :: v :: r, h =>
    have h1 : ¬ t = mk 43 := by simpa [first] using h.1
    have h2 : ¬ t = mk 45 := by simpa [first] using h.2
    simp only [loopR]
    rw [if_neg h1, if_neg h2]
    split <;> rfl
/-- What a term keeps. -/
structure Fine (x : X) : Prop where
  s : x.s = [] ∨ wordL x.s = true
  l : x.l = [] ∨ wordL x.l = true
  n : numX x
theorem term_fine {t : Tok} {x y : X} {b : Bool} (hx : Fine x) (h : termT t x b = some y) : Fine y ∧ y.m = x.m := by
  unfold termT at h
  split at h
  · cases h
    exact ⟨⟨hx.s, hx.l, w64_range _⟩, rfl⟩
  split at h
  · split at h
    · split at h
      · cases h
      · split at h
        · rename_i hw
          cases h
          exact ⟨⟨hx.s, .inr hw, hx.n⟩, rfl⟩
        · cases h
    · split at h
      · cases h
      · split at h
        · rename_i hw
          cases h
          exact ⟨⟨.inr hw, hx.l, hx.n⟩, rfl⟩
        · cases h
  · cases h
theorem loop_law : ∀ (r : List Tok) (x : X) (r3 : List Tok) (y : X), Fine x → loopR r x = some (r3, y) →
    Fine y ∧ y.m = x.m ∧ ∃ used, r = used ++ r3 ∧ ∀ u, Good u → loopR (used ++ u) x = some (u, y)
  | [], x, r3, y, hx, h => by
    cases h
    exact ⟨hx, rfl, [], rfl, fun u hu => loop_good hu x⟩
  | [t], x, r3, y, hx, h => by
    cases h
    exact ⟨hx, rfl, [], rfl, fun u hu => loop_good hu x⟩
  | t :: v :: r, x, r3, y, hx, h => by
    simp only [loopR] at h
    by_cases hs : startsT v = true
    · rw [if_pos hs] at h
      by_cases h1 : t = mk 43
      · rw [if_pos h1] at h
        cases ht : termT v x false with
        | none => rw [ht] at h; cases h
        | some z =>
          rw [ht] at h
          obtain ⟨f, m⟩ := term_fine hx ht
          obtain ⟨g, m2, used, e, hu⟩ := loop_law r z r3 y f h
          refine ⟨g, m2.trans m, t :: v :: used, by rw [e]; rfl, fun u hg => ?_⟩
          simp only [List.cons_append, loopR]
          rw [if_pos hs, if_pos h1, ht]
          exact hu u hg
      · rw [if_neg h1] at h
        by_cases h2 : t = mk 45
        · rw [if_pos h2] at h
          cases ht : termT v x true with
          | none => rw [ht] at h; cases h
          | some z =>
            rw [ht] at h
            obtain ⟨f, m⟩ := term_fine hx ht
            obtain ⟨g, m2, used, e, hu⟩ := loop_law r z r3 y f h
            refine ⟨g, m2.trans m, t :: v :: used, by rw [e]; rfl, fun u hg => ?_⟩
            simp only [List.cons_append, loopR]
            rw [if_pos hs, if_neg h1, if_pos h2, ht]
            exact hu u hg
        · rw [if_neg h2] at h
          cases h
          exact ⟨hx, rfl, [], rfl, fun u hu => loop_good hu x⟩
    · rw [if_neg hs] at h
      cases h
      exact ⟨hx, rfl, [], rfl, fun u hu => loop_good hu x⟩
theorem first_app {t : Tok} {r u : List Tok} (c : UInt8) : first ((t :: r) ++ u) c = first (t :: r) c := rfl
theorem sum_law {r r3 : List Tok} {x y : X} (hx : Fine x) (h : sumR r x = some (r3, y)) :
    Fine y ∧ y.m = x.m ∧ (y.s ≠ [] ∨ y.l = []) ∧ ∃ used, used ≠ [] ∧ r = used ++ r3 ∧ ∀ u, Good u → sumR (used ++ u) x = some (u, y) := by
  cases r with
  | nil => simp [sumR, tailOf, first] at h
  | cons t r =>
    unfold sumR at h
    have key : ∀ (a : Tok) (q : List Tok), (match termT a x (first (t :: r) 45) with
        | none => none
        | some y => match loopR q y with
          | none => none
          | some (r3, z) => if z.s ≠ [] ∨ z.l = [] then some (r3, z) else none) = some (r3, y) →
        Fine y ∧ y.m = x.m ∧ (y.s ≠ [] ∨ y.l = []) ∧ ∃ used, q = used ++ r3 ∧ ∀ u, Good u → (match termT a x (first (t :: r) 45) with
          | none => none
          | some y => match loopR (used ++ u) y with
            | none => none
            | some (r3, z) => if z.s ≠ [] ∨ z.l = [] then some (r3, z) else none) = some (u, y) := by
      intro a q h
      cases ht : termT a x (first (t :: r) 45) with
      | none => rw [ht] at h; cases h
      | some z =>
        rw [ht] at h
        simp only at h
        cases hl : loopR q z with
        | none => rw [hl] at h; cases h
        | some p =>
          obtain ⟨r4, v⟩ := p
          rw [hl] at h
          simp only at h
          by_cases hc : v.s ≠ [] ∨ v.l = []
          · rw [if_pos hc] at h
            cases h
            obtain ⟨f, m⟩ := term_fine hx ht
            obtain ⟨g, m2, used, e, hu⟩ := loop_law q z r3 y f hl
            refine ⟨g, m2.trans m, hc, used, e, fun u hg => ?_⟩
            simp only
            rw [hu u hg]
            simp only
            rw [if_pos hc]
          · rw [if_neg hc] at h
            cases h
    by_cases hs : (first (t :: r) 45 || first (t :: r) 43) = true
    · have e1 : tailOf (t :: r) = r := if_pos hs
      rw [e1] at h
      cases r with
      | nil => cases h
      | cons a q =>
        obtain ⟨f, m, c, used, e, hu⟩ := key a q h
        refine ⟨f, m, c, t :: a :: used, by simp, by rw [e]; rfl, fun u hg => ?_⟩
        unfold sumR
        have e2 : tailOf ((t :: a :: used) ++ u) = a :: (used ++ u) := if_pos hs
        rw [e2]
        exact hu u hg
    · have e1 : tailOf (t :: r) = t :: r := if_neg hs
      rw [e1] at h
      obtain ⟨f, m, c, used, e, hu⟩ := key t r h
      refine ⟨f, m, c, t :: used, by simp, by rw [e]; rfl, fun u hg => ?_⟩
      unfold sumR
      have e2 : tailOf ((t :: used) ++ u) = t :: (used ++ u) := if_neg hs
      rw [e2]
      exact hu u hg
theorem mod_le (s : List UInt8) : modL s ≤ 4 := by unfold modL; repeat' split <;> try omega
theorem mod_name {s : List UInt8} (h : modL s ≠ 0) : modName (modL s) = s := by
  unfold modL at h ⊢
  split
  · rename_i e; rw [e]
  split
  · rename_i e; rw [e]
  split
  · rename_i e; rw [e]
  split
  · rename_i e; rw [e]
  · simp_all
theorem fine0 (m : Nat) : Fine { x0 with m := m } := ⟨.inl rfl, .inl rfl, by show -9223372036854775808 ≤ (0 : Int) ∧ (0 : Int) < 9223372036854775808; omega⟩
theorem check_of {y : X} (f : Fine y) (c : y.s ≠ [] ∨ y.l = []) (hm : y.m ≤ 4) : checkL y = true := by
  unfold checkL
  rw [decide_eq_true hm]
  rcases c with c | c <;> rcases f.s with h | h <;> rcases f.l with g | g <;> simp_all
theorem parse_law {r r3 : List Tok} {y : X} (h : parseR r = some (r3, y)) :
    checkL y = true ∧ numX y ∧ ∃ used, used ≠ [] ∧ r = used ++ r3 ∧ ∀ u, Good u → parseR (used ++ u) = some (u, y) := by
  cases r with
  | nil => simp [parseR, sumR, tailOf, first] at h
  | cons t r1 =>
    simp only [parseR] at h
    by_cases hp : t.k = 1 ∧ t.t.getD 0 0 = 37
    · rw [if_pos hp] at h
      by_cases hm : modL t.t = 0
      · rw [if_pos hm] at h; cases h
      · rw [if_neg hm] at h
        cases r1 with
        | nil => cases h
        | cons u r2 =>
          simp only at h
          by_cases hu : u = mk 40
          · rw [if_pos hu] at h
            cases hs : sumR r2 { x0 with m := modL t.t } with
            | none => rw [hs] at h; cases h
            | some p =>
              obtain ⟨q, z⟩ := p
              rw [hs] at h
              cases q with
              | nil => cases h
              | cons v r4 =>
                simp only at h
                by_cases hv : v = mk 41
                · rw [if_pos hv] at h
                  cases h
                  obtain ⟨f, m, c, used, hne, e, hl⟩ := sum_law (fine0 _) hs
                  refine ⟨check_of f c (by rw [m]; exact mod_le _), f.n, t :: u :: (used ++ [v]), by simp, by rw [e]; simp, fun w hg => ?_⟩
                  simp only [List.cons_append, parseR, List.append_assoc, List.nil_append]
                  rw [if_pos hp, if_neg hm, if_pos hu, hl (v :: w) ⟨by rw [hv]; rfl, by rw [hv]; rfl⟩]
                  simp only
                  rw [if_pos hv]
                · rw [if_neg hv] at h; cases h
          · rw [if_neg hu] at h; cases h
    · rw [if_neg hp] at h
      obtain ⟨f, m, c, used, hne, e, hl⟩ := sum_law (fine0 0) h
      refine ⟨check_of f c (by rw [m]; exact Nat.zero_le _), f.n, used, hne, e, fun u hg => ?_⟩
      cases used with
      | nil => exact absurd rfl hne
      | cons a used =>
        simp only [List.cons_append] at e hl ⊢
        injection e with e1 e2
        subst e1
        simp only [parseR]
        rw [if_neg hp]
        exact hl u hg
end Go.Proofs.YtgihgmniijhfoaaDoor.Ex
namespace Go.Proofs.YtgihgmniijhfoaaDoor.Ex
open Go.Proofs.YtgihgmniijhfoaaDoor.Lex
set_option linter.unusedSimpArgs false
set_option linter.unusedVariables false
def bodyX (x : X) : List Tok :=
  (if x.s ≠ [] then [⟨1, x.s, 0⟩] else []) ++ (if x.l ≠ [] then [mk 45, ⟨1, x.l, 0⟩] else []) ++ (if x.n ≠ 0 ∨ x.s = [] then (if x.s ≠ [] then [mk 43] else []) ++ [⟨2, [], x.n⟩] else [])
theorem toks_body (x : X) : toksX x = (if 0 < x.m then [⟨1, modName x.m, 0⟩, mk 40] else []) ++ bodyX x ++ (if 0 < x.m then [mk 41] else []) := by
  unfold toksX bodyX
  simp only [List.append_assoc]
theorem word_head {s : List UInt8} (h : wordL s = true) : ¬ s.getD 0 0 = 37 := by
  unfold wordL at h
  simp only [Bool.and_eq_true, Bool.not_eq_true', beq_eq_false_iff_ne] at h
  exact h.2
theorem word_may {s : List UInt8} (h : wordL s = true) : (nameL s || localL s) = true := by
  unfold wordL at h
  simp only [Bool.and_eq_true] at h
  exact h.1
theorem check_parts {x : X} (h : checkL x = true) : (x.s = [] ∨ wordL x.s = true) ∧ (x.l = [] ∨ (x.s ≠ [] ∧ wordL x.l = true)) ∧ x.m ≤ 4 := by
  unfold checkL at h
  simp only [Bool.and_eq_true, Bool.or_eq_true, decide_eq_true_eq] at h
  exact ⟨h.1.1, h.1.2, h.2⟩
theorem sum_body {x : X} (h : checkL x = true) (hn : numX x) {v : List Tok} (hv : Good v) : sumR (bodyX x ++ v) { x0 with m := x.m } = some (v, x) := by
  obtain ⟨hs, hl, hm⟩ := check_parts h
  obtain ⟨s, l, n, m⟩ := x
  have hw : w64 (0 + n) = n := by rw [Int.zero_add]; exact w64_id hn
  simp only [numX] at *
  by_cases c : s = []
  · subst c
    have e : l = [] := by
      rcases hl with h | h
      · exact h
      · exact absurd rfl h.1
    subst e
    simp [bodyX, sumR, tailOf, first, mk, termT, x0, loop_good hv]
    simpa using hw
  · have ws : wordL s = true := hs.resolve_left c
    by_cases d : l = []
    · subst d
      by_cases z : n = 0
      · subst z
        simp [bodyX, sumR, tailOf, first, mk, termT, x0, loop_good hv, c, ws]
      · simp [bodyX, sumR, tailOf, first, mk, termT, x0, loop_good hv, c, ws, z, loopR, startsT]
        simpa using hw
    · have wl : wordL l = true := (hl.resolve_left d).2
      by_cases z : n = 0
      · subst z
        simp [bodyX, sumR, tailOf, first, mk, termT, x0, loop_good hv, c, ws, d, wl, loopR, startsT]
      · simp [bodyX, sumR, tailOf, first, mk, termT, x0, loop_good hv, c, ws, d, wl, z, loopR, startsT]
        simpa using hw
theorem body_head {x : X} (h : checkL x = true) : ∃ t r, bodyX x = t :: r ∧ ¬ (t.k = 1 ∧ t.t.getD 0 0 = 37) := by
  obtain ⟨hs, hl, hm⟩ := check_parts h
  obtain ⟨s, l, n, m⟩ := x
  by_cases c : s = []
  · subst c
    have e : l = [] := by
      rcases hl with h | h
      · exact h
      · exact absurd rfl h.1
    subst e
    exact ⟨⟨2, [], n⟩, [], by simp [bodyX], by simp⟩
  · have ws : wordL s = true := hs.resolve_left c
    refine ⟨⟨1, s, 0⟩, _, by simp only [bodyX]; rw [if_pos c]; rfl, fun e => word_head ws e.2⟩
theorem mod_back : ∀ m, 0 < m → m ≤ 4 → modL (modName m) = m ∧ (modName m).getD 0 0 = 37 ∧ nameL (modName m) = true := by
  intro m h0 h4
  have : m = 1 ∨ m = 2 ∨ m = 3 ∨ m = 4 := by omega
  rcases this with rfl | rfl | rfl | rfl <;> decide
theorem parse_toks {x : X} (h : checkL x = true) (hn : numX x) {u : List Tok} (hu : Good u) : parseR (toksX x ++ u) = some (u, x) := by
  rw [toks_body]
  obtain ⟨hs, hl, hm⟩ := check_parts h
  by_cases h0 : 0 < x.m
  · obtain ⟨a, b, c⟩ := mod_back x.m h0 hm
    rw [if_pos h0, if_pos h0]
    simp only [List.cons_append, List.nil_append, List.append_assoc, parseR]
    rw [if_pos ⟨trivial, b⟩, a, if_neg (by omega), if_pos trivial, sum_body h hn (v := mk 41 :: u) ⟨rfl, rfl⟩]
    simp only
    rw [if_pos trivial]
  · have hz : x.m = 0 := by omega
    rw [if_neg h0, if_neg h0, List.nil_append, List.append_nil]
    obtain ⟨t, r, e, hp⟩ := body_head h
    have hb := sum_body h hn hu
    rw [e, hz] at hb
    rw [e, List.cons_append]
    simp only [parseR]
    rw [if_neg hp]
    exact hb
theorem toks_may {x : X} (h : checkL x = true) (hn : numX x) : ∀ t ∈ toksX x, mayL t = true ∧ numOk t := by
  obtain ⟨hs, hl, hm⟩ := check_parts h
  have z : -9223372036854775808 ≤ (0 : Int) ∧ (0 : Int) < 9223372036854775808 := by omega
  have mark : ∀ c, markC c = true → mayL (mk c) = true ∧ numOk (mk c) := fun c hc => ⟨by simp [mayL, textL, mk, hc], z⟩
  have word : ∀ s, (nameL s || localL s) = true → mayL ⟨1, s, 0⟩ = true ∧ numOk ⟨1, s, 0⟩ := fun s hc => ⟨by simp only [mayL, textL]; rw [if_pos trivial]; simpa using hc, z⟩
  intro t ht
  unfold toksX at ht
  simp only [List.mem_append] at ht
  rcases ht with (((ht | ht) | ht) | ht) | ht
  · split at ht
    · rename_i h0
      obtain ⟨a, b, c⟩ := mod_back x.m h0 hm
      simp only [List.mem_cons, List.not_mem_nil, or_false] at ht
      rcases ht with rfl | rfl
      · exact word _ (by rw [c]; rfl)
      · exact mark 40 (by decide)
    · cases ht
  · split at ht
    · rename_i h0
      simp only [List.mem_cons, List.not_mem_nil, or_false] at ht
      subst ht
      exact word _ (word_may (hs.resolve_left h0))
    · cases ht
  · split at ht
    · rename_i h0
      simp only [List.mem_cons, List.not_mem_nil, or_false] at ht
      rcases ht with rfl | rfl
      · exact mark 45 (by decide)
      · exact word _ (word_may (hl.resolve_left h0).2)
    · cases ht
  · split at ht
    · simp only [List.mem_append] at ht
      rcases ht with ht | ht
      · split at ht
        · simp only [List.mem_cons, List.not_mem_nil, or_false] at ht
          subst ht
          exact mark 43 (by decide)
        · cases ht
      · simp only [List.mem_cons, List.not_mem_nil, or_false] at ht
        subst ht
        refine ⟨?_, hn⟩
        simp only [mayL, textL]
        rw [if_neg (by decide), if_neg (by decide), if_neg (by decide), if_pos trivial]
        split <;> rfl
    · cases ht
  · split at ht
    · simp only [List.mem_cons, List.not_mem_nil, or_false] at ht
      subst ht
      exact mark 41 (by decide)
    · cases ht
/-- What is told is read back. -/
theorem parse_back {x : X} (h : checkL x = true) (hn : numX x) {u : List Tok} (hu : Good u) (hm : u.all mayL = true) : parseL (toksX x ++ u) 0 = (x, (toksX x).length, 0) := by
  unfold parseL
  have ha : (toksX x ++ u).all mayL = true := by
    rw [List.all_append, hm, Bool.and_true, List.all_eq_true]
    exact fun t ht => (toks_may h hn t ht).1
  rw [if_neg (by rw [ha]; simp), if_neg (by omega)]
  rw [show (0 : Int).toNat = 0 from rfl, List.drop_zero, parse_toks h hn hu]
  simp only [List.length_append]
  rw [Nat.add_sub_cancel]
theorem good_nil : Good [] := ⟨rfl, rfl⟩
/-- What is read hangs on what it stands on alone. -/
theorem parse_only {l : List Tok} {a : Int} {y : X} {n : Nat} (h : parseL l a = (y, n, 0)) :
    0 ≤ a ∧ a.toNat < n ∧ n ≤ l.length ∧ checkL y = true ∧ numX y ∧ parseL (l.take n) a = (y, n, 0) ∧ parseL (toksX y) 0 = (y, (toksX y).length, 0) := by
  unfold parseL at h
  by_cases hall : l.all mayL = false
  · rw [if_pos hall] at h; simp at h
  rw [if_neg hall] at h
  by_cases hr : a < 0 ∨ (l.length : Int) < a
  · rw [if_pos hr] at h; simp at h
  rw [if_neg hr] at h
  cases hp : parseR (l.drop a.toNat) with
  | none => rw [hp] at h; simp at h
  | some p =>
    obtain ⟨r, z⟩ := p
    rw [hp] at h
    simp only [Prod.mk.injEq, and_true] at h
    obtain ⟨rfl, rfl⟩ := h
    obtain ⟨hc, hn, used, hne, e, hu⟩ := parse_law hp
    have hlen := congrArg List.length e
    rw [List.length_drop, List.length_append] at hlen
    have hpos : 0 < used.length := List.length_pos_iff.2 hne
    have hb := parse_back hc hn good_nil rfl
    rw [List.append_nil] at hb
    refine ⟨by omega, by omega, by omega, hc, hn, ?_, hb⟩
    have hall' : (l.take (l.length - r.length)).all mayL = true := by
      rw [List.all_eq_true]
      have : l.all mayL = true := by simpa using hall
      exact fun t ht => List.all_eq_true.1 this t (List.mem_of_mem_take ht)
    have htake : (l.take (l.length - r.length)).drop a.toNat = used := by
      rw [List.drop_take, e, show l.length - r.length - a.toNat = used.length by omega, List.take_left']
      rfl
    unfold parseL
    rw [if_neg (by rw [hall']; simp), if_neg (by rw [List.length_take]; omega), htake]
    have hu0 := hu [] good_nil
    rw [List.append_nil] at hu0
    rw [hu0]
    simp only [List.length_take, List.length_nil]
    rw [Nat.sub_zero, Nat.min_eq_left (by omega)]
theorem parse_err {l : List Tok} {a : Int} (h : (parseL l a).2.2 ≠ 0) : (parseL l a).1 = x0 ∧ (parseL l a).2.1 = 0 := by
  unfold parseL at h ⊢
  split
  · exact ⟨rfl, rfl⟩
  split
  · exact ⟨rfl, rfl⟩
  split
  · exact ⟨rfl, rfl⟩
  · simp_all
end Go.Proofs.YtgihgmniijhfoaaDoor.Ex
namespace Go.Proofs.YtgihgmniijhfoaaDoor.Ex
open Go.Proofs.YtgihgmniijhfoaaDoor.Lex
set_option linter.unusedSimpArgs false
set_option linter.unusedVariables false
def stepQ (t : Tok) (minus : Bool) (x : X) (p q : Nat) : X × Nat × Nat :=
  if t.k = 2 then ({ x with n := if minus then w64 (x.n - t.n) else w64 (x.n + t.n) }, p, q)
  else if minus then ({ x with l := t.t }, p, q + 1) else ({ x with s := t.t }, p + 1, q)
def loopQ : List Tok → X → Nat → Nat → List Tok × X × Nat × Nat
  | t :: u :: r, x, p, q =>
    if startsT u then
      (if t = mk 43 then loopQ r (stepQ u false x p q).1 (stepQ u false x p q).2.1 (stepQ u false x p q).2.2
       else if t = mk 45 then loopQ r (stepQ u true x p q).1 (stepQ u true x p q).2.1 (stepQ u true x p q).2.2
       else (t :: u :: r, x, p, q))
    else (t :: u :: r, x, p, q)
  | r, x, p, q => (r, x, p, q)
def okQ (p q : Nat) : Bool := decide (p ≤ 1) && decide (q ≤ 1)
theorem step_le (t : Tok) (b : Bool) (x : X) (p q : Nat) : p ≤ (stepQ t b x p q).2.1 ∧ q ≤ (stepQ t b x p q).2.2 ∧ (stepQ t b x p q).2.1 ≤ p + 1 ∧ (stepQ t b x p q).2.2 ≤ q + 1 := by
  unfold stepQ
  split
  · exact ⟨Nat.le_refl _, Nat.le_refl _, Nat.le_succ _, Nat.le_succ _⟩
  split
  · exact ⟨Nat.le_refl _, Nat.le_succ _, Nat.le_succ _, Nat.le_refl _⟩
  · exact ⟨Nat.le_succ _, Nat.le_refl _, Nat.le_refl _, Nat.le_succ _⟩
theorem loop_le : ∀ (r : List Tok) (x : X) (p q : Nat), p ≤ (loopQ r x p q).2.2.1 ∧ q ≤ (loopQ r x p q).2.2.2
  | [], x, p, q => ⟨Nat.le_refl _, Nat.le_refl _⟩
  | [t], x, p, q => ⟨Nat.le_refl _, Nat.le_refl _⟩
  | t :: u :: r, x, p, q => by
    simp only [loopQ]
    split
    · split
      · have h := loop_le r (stepQ u false x p q).1 (stepQ u false x p q).2.1 (stepQ u false x p q).2.2
        have g := step_le u false x p q
        exact ⟨Nat.le_trans g.1 h.1, Nat.le_trans g.2.1 h.2⟩
      · split
        · have h := loop_le r (stepQ u true x p q).1 (stepQ u true x p q).2.1 (stepQ u true x p q).2.2
          have g := step_le u true x p q
          exact ⟨Nat.le_trans g.1 h.1, Nat.le_trans g.2.1 h.2⟩
        · exact ⟨Nat.le_refl _, Nat.le_refl _⟩
    · exact ⟨Nat.le_refl _, Nat.le_refl _⟩
structure InvQ (x : X) (p q : Nat) : Prop where
  p1 : p ≤ 1
  q1 : q ≤ 1
  s : x.s = [] ↔ p = 0
  l : x.l = [] ↔ q = 0
theorem word_ne {s : List UInt8} (h : wordL s = true) : s ≠ [] := by
  intro e
  rw [e] at h
  exact absurd h (by decide)
theorem w64_sub (a b : Int) : w64 (a + w64 (-b)) = w64 (a - b) := by unfold w64; omega
/-- One term: the program refuses just where there are two words of a sign. -/
theorem term_Q {u : Tok} {x : X} {p q : Nat} (b : Bool) (h : InvQ x p q) (hs : startsT u = true) :
    (okQ (stepQ u b x p q).2.1 (stepQ u b x p q).2.2 = true → termT u x b = some (stepQ u b x p q).1 ∧ InvQ (stepQ u b x p q).1 (stepQ u b x p q).2.1 (stepQ u b x p q).2.2)
    ∧ (okQ (stepQ u b x p q).2.1 (stepQ u b x p q).2.2 = false → termT u x b = none) := by
  have h1 := h.p1
  have h2 := h.q1
  unfold termT stepQ
  by_cases k2 : u.k = 2
  · rw [if_pos k2, if_pos k2]
    refine ⟨fun _ => ⟨?_, ⟨h.p1, h.q1, h.s, h.l⟩⟩, fun e => ?_⟩
    · cases b
      · simp
      · simp [w64_sub]
    · simp [okQ, h1, h2] at e
  · have hw : u.k = 1 ∧ wordL u.t = true := by
      simp only [startsT, Bool.or_eq_true, Bool.and_eq_true, decide_eq_true_eq] at hs
      rcases hs with hs | hs
      · exact absurd hs k2
      · exact hs
    obtain ⟨k1, hw⟩ := hw
    have hne := word_ne hw
    rw [if_neg k2, if_neg k2, if_pos k1]
    cases b with
    | true =>
      simp only [if_true, okQ]
      by_cases c : x.l = []
      · have q0 := h.l.1 c
        subst q0
        refine ⟨fun _ => ⟨by rw [if_neg (by simp [c]), if_pos hw], ⟨h.p1, by omega, h.s, by simp [hne]⟩⟩, fun e => ?_⟩
        simp [h1] at e
      · have q0 : ¬ q = 0 := fun e => c (h.l.2 e)
        refine ⟨fun e => ?_, fun _ => by rw [if_pos c]⟩
        simp at e
        omega
    | false =>
      simp only [okQ, Bool.false_eq_true, if_false]
      by_cases c : x.s = []
      · have q0 := h.s.1 c
        subst q0
        refine ⟨fun _ => ⟨by rw [if_neg (by simp [c]), if_pos hw], ⟨by omega, h.q1, by simp [hne], h.l⟩⟩, fun e => ?_⟩
        simp [h2] at e
      · have q0 : ¬ p = 0 := fun e => c (h.s.2 e)
        refine ⟨fun e => ?_, fun _ => by rw [if_pos c]⟩
        simp at e
        omega
theorem ok_down {p q p' q' : Nat} (hp : p ≤ p') (hq : q ≤ q') (h : okQ p q = false) : okQ p' q' = false := by
  unfold okQ at *
  simp at *
  omega
theorem loop_Q : ∀ (r : List Tok) (x : X) (p q : Nat), InvQ x p q →
    (okQ (loopQ r x p q).2.2.1 (loopQ r x p q).2.2.2 = true → loopR r x = some ((loopQ r x p q).1, (loopQ r x p q).2.1) ∧ InvQ (loopQ r x p q).2.1 (loopQ r x p q).2.2.1 (loopQ r x p q).2.2.2)
    ∧ (okQ (loopQ r x p q).2.2.1 (loopQ r x p q).2.2.2 = false → loopR r x = none)
  | [], x, p, q, h => ⟨fun _ => ⟨rfl, h⟩, fun e => by simp [loopQ, okQ, h.p1, h.q1] at e⟩
  | [t], x, p, q, h => ⟨fun _ => ⟨rfl, h⟩, fun e => by simp [loopQ, okQ, h.p1, h.q1] at e⟩
  | t :: u :: r, x, p, q, h => by
    have stay : okQ p q = true := by simp [okQ, h.p1, h.q1]
    have go : ∀ b : Bool, startsT u = true →
        (okQ (loopQ r (stepQ u b x p q).1 (stepQ u b x p q).2.1 (stepQ u b x p q).2.2).2.2.1 (loopQ r (stepQ u b x p q).1 (stepQ u b x p q).2.1 (stepQ u b x p q).2.2).2.2.2 = true →
          (match termT u x b with | none => none | some y => loopR r y) = some ((loopQ r (stepQ u b x p q).1 (stepQ u b x p q).2.1 (stepQ u b x p q).2.2).1, (loopQ r (stepQ u b x p q).1 (stepQ u b x p q).2.1 (stepQ u b x p q).2.2).2.1)
          ∧ InvQ (loopQ r (stepQ u b x p q).1 (stepQ u b x p q).2.1 (stepQ u b x p q).2.2).2.1 (loopQ r (stepQ u b x p q).1 (stepQ u b x p q).2.1 (stepQ u b x p q).2.2).2.2.1 (loopQ r (stepQ u b x p q).1 (stepQ u b x p q).2.1 (stepQ u b x p q).2.2).2.2.2)
        ∧ (okQ (loopQ r (stepQ u b x p q).1 (stepQ u b x p q).2.1 (stepQ u b x p q).2.2).2.2.1 (loopQ r (stepQ u b x p q).1 (stepQ u b x p q).2.1 (stepQ u b x p q).2.2).2.2.2 = false →
          (match termT u x b with | none => none | some y => loopR r y) = none) := by
      intro b hs
      obtain ⟨t1, t2⟩ := term_Q b h hs
      have hl := loop_le r (stepQ u b x p q).1 (stepQ u b x p q).2.1 (stepQ u b x p q).2.2
      cases hc : okQ (stepQ u b x p q).2.1 (stepQ u b x p q).2.2 with
      | true =>
        obtain ⟨e, hi⟩ := t1 hc
        rw [e]
        exact loop_Q r _ _ _ hi
      | false =>
        rw [t2 hc]
        have := ok_down hl.1 hl.2 hc
        exact ⟨fun e => absurd (this.symm.trans e) (by simp), fun _ => rfl⟩
    simp only [loopQ, loopR]
    by_cases hs : startsT u = true
    · rw [if_pos hs, if_pos hs]
      by_cases h1 : t = mk 43
      · rw [if_pos h1, if_pos h1]
        exact go false hs
      · rw [if_neg h1, if_neg h1]
        by_cases h2 : t = mk 45
        · rw [if_pos h2, if_pos h2]
          exact go true hs
        · rw [if_neg h2, if_neg h2]
          exact ⟨fun _ => ⟨rfl, h⟩, fun e => by simp only at e; rw [stay] at e; cases e⟩
    · rw [if_neg hs, if_neg hs]
      exact ⟨fun _ => ⟨rfl, h⟩, fun e => by simp only at e; rw [stay] at e; cases e⟩
/-- The sum, as the document goes through it. -/
def endQ (v : List Tok × X × Nat × Nat) : Option (List Tok × X) := if v.2.2.1 > 1 ∨ v.2.2.2 > 1 ∨ v.2.2.2 > v.2.2.1 then none else some (v.1, v.2.1)
def sumQ (r : List Tok) (x : X) : Option (List Tok × X) := match tailOf r with
  | [] => none
  | t :: r2 => if startsT t then endQ (loopQ r2 (stepQ t (first r 45) x 0 0).1 (stepQ t (first r 45) x 0 0).2.1 (stepQ t (first r 45) x 0 0).2.2) else none
theorem term_starts {t : Tok} {x y : X} {b : Bool} (h : termT t x b = some y) : startsT t = true := by
  unfold termT at h
  unfold startsT
  split at h
  · rename_i k
    simp [k]
  split at h
  · rename_i k2 k1
    rw [k1]
    split at h
    · split at h
      · cases h
      · split at h
        · rename_i hw
          simp [hw]
        · cases h
    · split at h
      · cases h
      · split at h
        · rename_i hw
          simp [hw]
        · cases h
  · cases h
theorem sum_Q (r : List Tok) (m : Nat) : sumQ r { x0 with m := m } = sumR r { x0 with m := m } := by
  unfold sumQ sumR
  cases tailOf r with
  | nil => rfl
  | cons t r2 =>
    simp only
    have h0 : InvQ { x0 with m := m } 0 0 := ⟨Nat.zero_le _, Nat.zero_le _, by simp [x0], by simp [x0]⟩
    by_cases hs : startsT t = true
    · rw [if_pos hs]
      obtain ⟨t1, t2⟩ := term_Q (first r 45) h0 hs
      have hl := loop_le r2 (stepQ t (first r 45) { x0 with m := m } 0 0).1 (stepQ t (first r 45) { x0 with m := m } 0 0).2.1 (stepQ t (first r 45) { x0 with m := m } 0 0).2.2
      have hok : okQ (stepQ t (first r 45) { x0 with m := m } 0 0).2.1 (stepQ t (first r 45) { x0 with m := m } 0 0).2.2 = true := by
        obtain ⟨_, _, a, b⟩ := step_le t (first r 45) { x0 with m := m } 0 0
        unfold okQ
        rw [decide_eq_true a, decide_eq_true b]
        rfl
      obtain ⟨e, hi⟩ := t1 hok
      rw [e]
      simp only
      obtain ⟨l1, l2⟩ := loop_Q r2 _ _ _ hi
      generalize loopQ r2 (stepQ t (first r 45) { x0 with m := m } 0 0).1 (stepQ t (first r 45) { x0 with m := m } 0 0).2.1 (stepQ t (first r 45) { x0 with m := m } 0 0).2.2 = v at l1 l2 ⊢
      obtain ⟨r3, y, p, q⟩ := v
      simp only at l1 l2
      unfold endQ
      simp only
      cases hc : okQ p q with
      | true =>
        obtain ⟨f, hj⟩ := l1 hc
        rw [f]
        simp only
        have h1 := hj.p1
        have h2 := hj.q1
        have h3 := hj.s
        have h4 := hj.l
        by_cases c : q > p
        · rw [if_pos (.inr (.inr c)), if_neg]
          intro hn
          rcases hn with hn | hn
          · exact hn (h3.2 (by omega))
          · have := h4.1 hn; omega
        · rw [if_neg (by omega), if_pos]
          by_cases z : q = 0
          · exact .inr (h4.2 z)
          · exact .inl (fun e => by have := h3.1 e; omega)
      | false =>
        rw [l2 hc]
        simp only
        rw [if_pos]
        simp [okQ] at hc
        omega
    · rw [if_neg hs]
      cases ht : termT t { x0 with m := m } (first r 45) with
      | none => rfl
      | some y => exact absurd (term_starts ht) hs
end Go.Proofs.YtgihgmniijhfoaaDoor.Ex
