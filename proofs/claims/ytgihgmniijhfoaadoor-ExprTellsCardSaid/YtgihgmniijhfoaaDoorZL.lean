/- Texts of this seat in one (ZLexSpec, ZLexLaw, ZLexLaw2). Joined by merge.py, a program of this session. -/
import Init
namespace Go.Proofs.YtgihgmniijhfoaaDoor.Lex
set_option linter.unusedSimpArgs false
set_option linter.unusedVariables false

/-- The byte that a text has where a line has this one behind a stroke back. -/
def escL (c : UInt8) : Option UInt8 := if c = 110 then some 10 else if c = 116 then some 9 else if c = 48 then some 0 else if c = 34 then some 34 else if c = 92 then some 92 else none
/-- And back; 0: nothing stands behind a stroke for it. -/
def unescL (c : UInt8) : UInt8 := if c = 10 then 110 else if c = 9 then 116 else if c = 0 then 48 else if c = 34 then 34 else if c = 92 then 92 else 0
def plainC (c : UInt8) : Bool := 32 ≤ c && c ≤ 126
/-- The text that goes on, its first quote not counted, and how many bytes it has with the last quote; 0: none. -/
def quotedL : List UInt8 → Nat → List UInt8 → List UInt8 × Nat
  | [], _, _ => ([], 0)
  | [c], i, b => if c = 34 then (b, i + 1) else ([], 0)
  | c :: x :: t, i, b =>
    if c = 34 then (b, i + 1)
    else if c = 92 then (match escL x with | none => ([], 0) | some y => quotedL t (i + 2) (b ++ [y]))
    else if plainC c then quotedL (x :: t) (i + 1) (b ++ [c]) else ([], 0)
def digitC (c : UInt8) : Bool := 48 ≤ c && c ≤ 57
def startC (c : UInt8) : Bool := (97 ≤ c && c ≤ 122) || (65 ≤ c && c ≤ 90) || c == 95 || c == 46 || c == 36 || c == 37
def insideC (c : UInt8) : Bool := startC c && c != 37 || digitC c
def markC (c : UInt8) : Bool := c == 44 || c == 40 || c == 41 || c == 43 || c == 45 || c == 58
def hexC (c : UInt8) : Bool := digitC c || (97 ≤ c && c ≤ 102) || (65 ≤ c && c ≤ 70)
/-- How many bytes are so, from the beginning on. -/
def many (p : UInt8 → Bool) : List UInt8 → Nat
  | [] => 0
  | c :: t => if p c then many p t + 1 else 0
def nameL (l : List UInt8) : Bool := match l with | [] => false | c :: t => decide (t.length < 32) && startC c && decide (many insideC t = t.length)
def localL (l : List UInt8) : Bool := decide (1 ≤ many digitC l) && decide (many digitC l ≤ 9) && decide (l.length = many digitC l + 1) && (l.getD (many digitC l) 0 == 102 || l.getD (many digitC l) 0 == 98)
def hexVal (c : UInt8) : Nat := if digitC c then c.toNat - 48 else if 97 ≤ c then c.toNat - 87 else c.toNat - 55
def hexNat (l : List UInt8) : Nat := l.foldl (fun a c => a * 16 + hexVal c) 0
def decNat (l : List UInt8) : Nat := l.foldl (fun a c => a * 10 + (c.toNat - 48)) 0
def toI64 (n : Nat) : Int := if n < 9223372036854775808 then n else (n : Int) - 18446744073709551616
/-- The number with which a text begins, and how many bytes it has; 0: none. -/
def numL (l : List UInt8) : Int × Nat :=
  if 2 < l.length ∧ l.take 2 = [48, 120] then
    (if many hexC (l.drop 2) = 0 ∨ 16 < many hexC (l.drop 2) then (0, 0) else (toI64 (hexNat ((l.drop 2).take (many hexC (l.drop 2)))), many hexC (l.drop 2) + 2))
  else if many digitC l = 0 ∨ 18 < many digitC l then (0, 0) else ((decNat (l.take (many digitC l)) : Int), many digitC l)
/-- A token: its kind, its text, its number. -/
structure Tok where
  k : Nat
  t : List UInt8
  n : Int
deriving DecidableEq, Inhabited
def noTok : Tok × Nat := (⟨0, [], 0⟩, 0)
/-- The token with which a line goes on, and how many bytes it has; 0: none. -/
def nextL (l : List UInt8) : Tok × Nat := match l with
  | [] => noTok
  | c :: r =>
    if markC c then (⟨4, [c], 0⟩, 1)
    else if c = 34 then (if (quotedL r 0 []).2 = 0 then noTok else (⟨3, (quotedL r 0 []).1, 0⟩, (quotedL r 0 []).2 + 1))
    else if startC c then (if nameL (l.take (1 + many insideC r)) then (⟨1, l.take (1 + many insideC r), 0⟩, 1 + many insideC r) else noTok)
    else if localL (l.take (many insideC l)) then (⟨1, l.take (many insideC l), 0⟩, many insideC l)
    else if (numL l).2 = 0 ∨ (numL l).2 ≠ many insideC l then noTok else (⟨2, [], (numL l).1⟩, many insideC l)
/-- A line's words, behind those that are there: with so many steps. -/
def toksL : Nat → List UInt8 → List Tok → List Tok × Nat
  | 0, _, out => (out, 0)
  | _ + 1, [], out => (out, 0)
  | k + 1, c :: r, out =>
    if c = 32 ∨ c = 9 then toksL k r out
    else if c = 35 then (out, 0)
    else if (nextL (c :: r)).2 = 0 then ([], 150)
    else if out.length = 64 then ([], 4)
    else toksL k ((c :: r).drop (nextL (c :: r)).2) (out ++ [(nextL (c :: r)).1])
def tokensL (l : List UInt8) : List Tok × Nat := if 256 < l.length then ([], 3) else toksL l.length l []
/-- A text, as a line tells it, behind what is there; none: a byte can't be told. -/
def shownL : List UInt8 → List UInt8 → Option (List UInt8)
  | [], b => some (b ++ [34])
  | c :: t, b => if unescL c ≠ 0 then shownL t (b ++ [92, unescL c]) else if plainC c then shownL t (b ++ [c]) else none
def hexDig (n : Nat) : UInt8 := if n < 10 then UInt8.ofNat (48 + n) else UInt8.ofNat (87 + n)
def decDig (n : Nat) : UInt8 := UInt8.ofNat (48 + n)
/-- So many digits of a number. -/
def hexPad : Nat → Nat → List UInt8
  | 0, _ => []
  | k + 1, n => hexPad k (n / 16) ++ [hexDig (n % 16)]
def decL (n : Nat) : List UInt8 := if n < 10 then [decDig n] else decL (n / 10) ++ [decDig (n % 10)]
def ofI64 (n : Int) : Nat := (n % 18446744073709551616).toNat
/-- A token, as a line tells it; false: it may not be. -/
def textL (x : Tok) : List UInt8 × Bool :=
  if x.k = 1 then (x.t, decide (x.n = 0) && (nameL x.t || localL x.t))
  else if x.k = 4 then (x.t, decide (x.n = 0) && decide (x.t.length = 1) && markC (x.t.getD 0 0))
  else if x.k = 3 then (match shownL x.t [34] with | none => ([], false) | some s => (s, decide (x.n = 0) && decide (x.t.length ≤ 256)))
  else if x.k = 2 then (if 0 ≤ x.n ∧ x.n < 1000000000000000000 then (decL x.n.toNat, decide (x.t = [])) else ([48, 120] ++ hexPad 16 (ofI64 x.n), decide (x.t = [])))
  else ([], false)
def mayL (x : Tok) : Bool := (textL x).2
/-- Texts, a blank between. -/
def joinL : List (List UInt8) → List UInt8
  | [] => []
  | [a] => a
  | a :: b :: l => a ++ 32 :: joinL (b :: l)
/-- A line of some tokens. -/
def writeL (l : List Tok) : List UInt8 × Nat :=
  if 64 < l.length then ([], 4)
  else if l.all mayL = false then ([], 8)
  else if 256 < (joinL (l.map fun x => (textL x).1)).length then ([], 3)
  else (joinL (l.map fun x => (textL x).1), 0)
end Go.Proofs.YtgihgmniijhfoaaDoor.Lex
namespace Go.Proofs.YtgihgmniijhfoaaDoor.Lex
set_option linter.unusedSimpArgs false
set_option linter.unusedVariables false

/-- What is so of each byte, by going through all. -/
theorem bytes {p : UInt8 → Bool} (h : ∀ n, n < 256 → p (UInt8.ofNat n) = true) (c : UInt8) : p c = true := by
  have := h c.toNat c.toNat_lt
  rwa [UInt8.ofNat_toNat] at this
theorem start_facts (c : UInt8) (h : startC c = true) : markC c = false ∧ c ≠ 34 ∧ c ≠ 32 ∧ c ≠ 9 ∧ c ≠ 35 := by
  have := bytes (p := fun c => !startC c || (!markC c && c != 34 && c != 32 && c != 9 && c != 35)) (by decide +kernel) c
  simp [h] at this
  simp [this]
theorem digit_facts (c : UInt8) (h : digitC c = true) : markC c = false ∧ c ≠ 34 ∧ c ≠ 32 ∧ c ≠ 9 ∧ c ≠ 35 ∧ startC c = false ∧ insideC c = true ∧ c ≠ 120 ∧ hexC c = true := by
  have := bytes (p := fun c => !digitC c || (!markC c && c != 34 && c != 32 && c != 9 && c != 35 && !startC c && insideC c && c != 120 && hexC c)) (by decide +kernel) c
  simp [h] at this
  simp [this]
theorem mark_facts (c : UInt8) (h : markC c = true) : c ≠ 32 ∧ c ≠ 9 ∧ c ≠ 35 := by
  have := bytes (p := fun c => !markC c || (c != 32 && c != 9 && c != 35)) (by decide +kernel) c
  simp [h] at this
  simp [this]
theorem esc_unesc (c : UInt8) (h : unescL c ≠ 0) : escL (unescL c) = some c := by
  have := bytes (p := fun c => unescL c == 0 || escL (unescL c) == some c) (by decide +kernel) c
  simp [h] at this
  exact this
theorem unesc_esc {x y : UInt8} (h : escL x = some y) : unescL y ≠ 0 := by
  have := bytes (p := fun c => match escL c with | none => true | some y => unescL y != 0) (by decide +kernel) x
  rw [h] at this
  simpa using this
theorem unesc0 (c : UInt8) (h : unescL c = 0) : c ≠ 34 ∧ c ≠ 92 := by
  have := bytes (p := fun c => unescL c != 0 || (c != 34 && c != 92)) (by decide +kernel) c
  simp [h] at this
  exact this
theorem hexDig_facts : ∀ n, n < 16 → insideC (hexDig n) = true ∧ hexC (hexDig n) = true ∧ hexVal (hexDig n) = n := by decide +kernel
theorem decDig_facts : ∀ n, n < 10 → digitC (decDig n) = true ∧ (decDig n).toNat - 48 = n := by decide +kernel
theorem inside32 : insideC 32 = false := by decide
theorem digit32 : digitC 32 = false := by decide
theorem hex32 : hexC 32 = false := by decide

section
variable {p : UInt8 → Bool}
theorem many_le : ∀ l : List UInt8, many p l ≤ l.length
  | [] => Nat.le_refl _
  | c :: t => by
    simp only [many, List.length_cons]
    have := many_le t
    split <;> omega
theorem many_app {u : List UInt8} (h : u = [] ∨ ∃ t, u = 32 :: t) (h32 : p 32 = false) : ∀ l : List UInt8, many p (l ++ u) = many p l
  | [] => by rcases h with rfl | ⟨t, rfl⟩ <;> simp [many, h32]
  | c :: t => by simp only [List.cons_append, many, many_app h h32 t]
theorem many_all : ∀ l : List UInt8, (∀ c ∈ l, p c = true) → many p l = l.length
  | [], _ => rfl
  | c :: t, h => by
    simp only [many, List.length_cons, h c (by simp), if_true]
    rw [many_all t (fun x hx => h x (by simp [hx]))]
theorem all_many : ∀ l : List UInt8, many p l = l.length → ∀ c ∈ l, p c = true
  | [], _ => by simp
  | c :: t, h => by
    simp only [many, List.length_cons] at h
    split at h
    · rename_i hc
      intro x hx
      rcases List.mem_cons.1 hx with rfl | hx
      · exact hc
      · exact all_many t (by omega) x hx
    · omega
theorem many_take : ∀ l : List UInt8, ∀ c ∈ l.take (many p l), p c = true
  | [] => by simp
  | c :: t => by
    simp only [many]
    split
    · rename_i hc
      intro x hx
      rw [List.take_succ_cons] at hx
      rcases List.mem_cons.1 hx with rfl | hx
      · exact hc
      · exact many_take t x hx
    · simp
theorem many_pre : ∀ (a u : List UInt8), (∀ c ∈ a, p c = true) → many p (a ++ u) = a.length + many p u
  | [], u, _ => by simp
  | c :: t, u, h => by
    simp only [List.cons_append, many, h c (by simp), if_true, List.length_cons]
    rw [many_pre t u (fun x hx => h x (by simp [hx]))]
    omega
theorem many_at : ∀ (l : List UInt8), many p l < l.length → p (l.getD (many p l) 0) = false
  | [], h => by simp at h
  | c :: t, h => by
    simp only [many] at h ⊢
    split
    · rename_i hc
      rw [if_pos hc] at h
      simpa using many_at t (by simp at h; omega)
    · rename_i hc
      simpa using hc
end

/-! ### quoted texts -/
theorem quoted_plain {c : UInt8} {r : List UInt8} (hr : r ≠ []) (h1 : c ≠ 34) (h2 : c ≠ 92) (hp : plainC c = true) (i : Nat) (b : List UInt8) : quotedL (c :: r) i b = quotedL r (i + 1) (b ++ [c]) := by
  cases r with
  | nil => exact absurd rfl hr
  | cons x t => rw [quotedL, if_neg h1, if_neg h2, if_pos hp]
theorem quoted_end (u : List UInt8) (i : Nat) (b : List UInt8) : quotedL (34 :: u) i b = (b, i + 1) := by
  cases u with
  | nil => rw [quotedL, if_pos rfl]
  | cons x t => rw [quotedL, if_pos rfl]
theorem quoted_app (u : List UInt8) : ∀ (r : List UInt8) (i : Nat) (b : List UInt8), (quotedL r i b).2 ≠ 0 → quotedL (r ++ u) i b = quotedL r i b
  | [], i, b => by simp [quotedL]
  | [c], i, b => by
    rw [quotedL]
    split
    · rename_i h
      subst h
      intro _
      exact quoted_end u i b
    · intro h
      exact absurd rfl h
  | c :: x :: t, i, b => by
    show _ → quotedL (c :: x :: (t ++ u)) i b = _
    rw [quotedL, quotedL]
    split
    · intro _; rfl
    · split
      · cases escL x with
        | none => intro _; rfl
        | some y => exact quoted_app u t (i + 2) (b ++ [y])
      · split
        · exact quoted_app u (x :: t) (i + 1) (b ++ [c])
        · intro _; rfl
theorem quoted_bound : ∀ (r : List UInt8) (i : Nat) (b : List UInt8), (quotedL r i b).2 ≠ 0 → i < (quotedL r i b).2 ∧ (quotedL r i b).2 ≤ i + r.length ∧ (quotedL r i b).1.length ≤ b.length + r.length
  | [], i, b => by simp [quotedL]
  | [c], i, b => by
    rw [quotedL]
    split
    · intro _; simp
    · intro h; exact absurd rfl h
  | c :: x :: t, i, b => by
    rw [quotedL]
    split
    · intro _; simp
    · split
      · cases escL x with
        | none => intro h; exact absurd rfl h
        | some y =>
          intro h
          have := quoted_bound t (i + 2) (b ++ [y]) h
          simp only [List.length_cons, List.length_append, List.length_nil] at this ⊢
          exact ⟨by omega, by omega, by omega⟩
      · split
        · intro h
          have := quoted_bound (x :: t) (i + 1) (b ++ [c]) h
          simp only [List.length_cons, List.length_append, List.length_nil] at this ⊢
          exact ⟨by omega, by omega, by omega⟩
        · intro h; exact absurd rfl h
def tellC (c : UInt8) : Prop := unescL c ≠ 0 ∨ plainC c = true
theorem quoted_tell : ∀ (r : List UInt8) (i : Nat) (b : List UInt8), (∀ c ∈ b, tellC c) → ∀ c ∈ (quotedL r i b).1, tellC c
  | [], i, b, _ => by simp [quotedL]
  | [c], i, b, h => by
    rw [quotedL]
    split
    · exact h
    · simp
  | c :: x :: t, i, b, h => by
    rw [quotedL]
    split
    · exact h
    · split
      · cases hx : escL x with
        | none => simp
        | some y =>
          exact quoted_tell t (i + 2) (b ++ [y]) (fun z hz => by
            rcases List.mem_append.1 hz with hz | hz
            · exact h z hz
            · obtain rfl := List.mem_singleton.1 hz
              exact .inl (unesc_esc hx))
      · split
        · rename_i hp
          exact quoted_tell (x :: t) (i + 1) (b ++ [c]) (fun z hz => by
            rcases List.mem_append.1 hz with hz | hz
            · exact h z hz
            · obtain rfl := List.mem_singleton.1 hz
              exact .inr hp)
        · simp
theorem shown_some : ∀ (s b : List UInt8), (∀ c ∈ s, tellC c) → ∃ z, shownL s b = some z
  | [], b, _ => ⟨_, rfl⟩
  | c :: t, b, h => by
    rw [shownL]
    have ht := fun x hx => h x (List.mem_cons_of_mem c hx)
    split
    · exact shown_some t _ ht
    · rename_i h0
      rcases h c (by simp) with h1 | h1
      · exact absurd h1 h0
      · rw [if_pos h1]
        exact shown_some t _ ht
theorem shown_back : ∀ (s b z : List UInt8), shownL s b = some z → ∃ w, z = b ++ w ∧ w ≠ [] ∧ ∀ u i acc, quotedL (w ++ u) i acc = (acc ++ s, i + w.length)
  | [], b, z, h => by
    rw [shownL] at h
    obtain rfl := Option.some.inj h
    exact ⟨[34], rfl, by simp, fun u i acc => by rw [List.append_nil]; exact quoted_end u i acc⟩
  | c :: t, b, z, h => by
    rw [shownL] at h
    split at h
    · rename_i h0
      obtain ⟨w, rfl, hw, hq⟩ := shown_back t _ z h
      refine ⟨92 :: unescL c :: w, by simp, by simp, fun u i acc => ?_⟩
      show quotedL (92 :: unescL c :: (w ++ u)) i acc = _
      rw [quotedL, if_neg (by decide), if_pos rfl, esc_unesc c h0]
      show quotedL (w ++ u) (i + 2) (acc ++ [c]) = _
      rw [hq]
      simp
      omega
    · rename_i h0
      split at h
      · rename_i hp
        obtain ⟨w, rfl, hw, hq⟩ := shown_back t _ z h
        refine ⟨c :: w, by simp, by simp, fun u i acc => ?_⟩
        have := unesc0 c (Decidable.not_not.1 h0)
        show quotedL (c :: (w ++ u)) i acc = _
        rw [quoted_plain (by simp [hw]) this.1 this.2 hp, hq]
        simp
        omega
      · cases h

/-! ### numbers -/
theorem hexPad_len : ∀ k n, (hexPad k n).length = k
  | 0, _ => rfl
  | k + 1, n => by simp [hexPad, hexPad_len k]
theorem hexPad_all {p : UInt8 → Bool} (hp : ∀ n, n < 16 → p (hexDig n) = true) : ∀ k n, ∀ c ∈ hexPad k n, p c = true
  | 0, _ => by simp [hexPad]
  | k + 1, n => fun c hc => by
    rcases List.mem_append.1 hc with hc | hc
    · exact hexPad_all hp k _ c hc
    · obtain rfl := List.mem_singleton.1 hc
      exact hp _ (Nat.mod_lt _ (by decide))
theorem hexNat_snoc (l : List UInt8) (c : UInt8) : hexNat (l ++ [c]) = hexNat l * 16 + hexVal c := by simp [hexNat]
theorem decNat_snoc (l : List UInt8) (c : UInt8) : decNat (l ++ [c]) = decNat l * 10 + (c.toNat - 48) := by simp [decNat]
theorem hexPad_val : ∀ k n, hexNat (hexPad k n) = n % 16 ^ k
  | 0, n => by simp [hexPad, hexNat, Nat.mod_one]
  | k + 1, n => by
    rw [hexPad, hexNat_snoc, hexPad_val k, (hexDig_facts _ (Nat.mod_lt n (by decide))).2.2, Nat.pow_succ, Nat.mul_comm (16 ^ k) 16, Nat.mod_mul]
    omega
theorem dec_all (n : Nat) : ∀ c ∈ decL n, digitC c = true := by
  induction n using Nat.strongRecOn with
  | _ n ih =>
    rw [decL]
    split
    · rename_i h
      intro c hc
      obtain rfl := List.mem_singleton.1 hc
      exact (decDig_facts n h).1
    · rename_i h
      intro c hc
      rcases List.mem_append.1 hc with hc | hc
      · exact ih (n / 10) (by omega) c hc
      · obtain rfl := List.mem_singleton.1 hc
        exact (decDig_facts _ (Nat.mod_lt n (by decide))).1
theorem dec_val (n : Nat) : decNat (decL n) = n := by
  induction n using Nat.strongRecOn with
  | _ n ih =>
    rw [decL]
    split
    · rename_i h
      have := (decDig_facts n h).2
      simp [decNat, this]
    · rename_i h
      rw [decNat_snoc, ih (n / 10) (by omega), (decDig_facts _ (Nat.mod_lt n (by decide))).2]
      omega
theorem dec_ne (n : Nat) : decL n ≠ [] := by
  rw [decL]
  split <;> simp
theorem dec_len (k n : Nat) (hk : 0 < k) (h : n < 10 ^ k) : (decL n).length ≤ k := by
  induction k generalizing n with
  | zero => omega
  | succ k ih =>
    rw [decL]
    split
    · simp
    · rename_i h10
      rw [List.length_append, List.length_singleton]
      have h1 : n / 10 < 10 ^ k := by
        rw [Nat.div_lt_iff_lt_mul (by decide)]
        rw [Nat.pow_succ] at h
        exact h
      have : 0 < k := by
        rcases Nat.eq_zero_or_pos k with rfl | hk
        · simp at h1
          omega
        · exact hk
      have := ih (n / 10) this h1
      omega
theorem decNat_lt : ∀ l : List UInt8, (∀ c ∈ l, digitC c = true) → decNat l < 10 ^ l.length := by
  intro l
  induction hn : l.length generalizing l with
  | zero =>
    intro _
    obtain rfl := List.eq_nil_of_length_eq_zero hn
    simp [decNat]
  | succ k ih =>
    intro h
    obtain ⟨a, c, rfl⟩ : ∃ a c, l = a ++ [c] := by
      have hne : l ≠ [] := by intro h0; rw [h0] at hn; simp at hn
      exact ⟨l.dropLast, l.getLast hne, (List.dropLast_concat_getLast hne).symm⟩
    rw [List.length_append, List.length_singleton] at hn
    have h1 := ih a (by omega) (fun x hx => h x (List.mem_append_left _ hx))
    have hc := h c (by simp)
    have h2 : c.toNat - 48 < 10 := by
      have := bytes (p := fun c => !digitC c || decide (c.toNat - 48 < 10)) (by decide +kernel) c
      simp [hc] at this
      exact this
    rw [decNat_snoc, Nat.pow_succ]
    omega
theorem hexNat_lt : ∀ l : List UInt8, (∀ c ∈ l, hexC c = true) → hexNat l < 16 ^ l.length := by
  intro l
  induction hn : l.length generalizing l with
  | zero =>
    intro _
    obtain rfl := List.eq_nil_of_length_eq_zero hn
    simp [hexNat]
  | succ k ih =>
    intro h
    obtain ⟨a, c, rfl⟩ : ∃ a c, l = a ++ [c] := by
      have hne : l ≠ [] := by intro h0; rw [h0] at hn; simp at hn
      exact ⟨l.dropLast, l.getLast hne, (List.dropLast_concat_getLast hne).symm⟩
    rw [List.length_append, List.length_singleton] at hn
    have h1 := ih a (by omega) (fun x hx => h x (List.mem_append_left _ hx))
    have hc := h c (by simp)
    have h2 : hexVal c < 16 := by
      have := bytes (p := fun c => !hexC c || decide (hexVal c < 16)) (by decide +kernel) c
      simp [hc] at this
      exact this
    rw [hexNat_snoc, Nat.pow_succ]
    omega
theorem toI64_ofI64 {n : Int} (h0 : -9223372036854775808 ≤ n) (h1 : n < 9223372036854775808) : toI64 (ofI64 n) = n := by
  unfold toI64 ofI64
  split <;> omega
theorem ofI64_lt (n : Int) : ofI64 n < 16 ^ 16 := by
  unfold ofI64
  have : (16 : Nat) ^ 16 = 18446744073709551616 := by decide
  omega
theorem toI64_range {n : Nat} (h : n < 18446744073709551616) : -9223372036854775808 ≤ toI64 n ∧ toI64 n < 9223372036854775808 := by
  unfold toI64
  split <;> omega
def numOk (x : Tok) : Prop := -9223372036854775808 ≤ x.n ∧ x.n < 9223372036854775808
theorem num_range (l : List UInt8) : -9223372036854775808 ≤ (numL l).1 ∧ (numL l).1 < 9223372036854775808 := by
  unfold numL
  split
  · split
    · simp
    · rename_i h
      have h1 := hexNat_lt ((l.drop 2).take (many hexC (l.drop 2))) (many_take _)
      have h2 : ((l.drop 2).take (many hexC (l.drop 2))).length ≤ 16 := by
        rw [List.length_take]
        omega
      exact toI64_range (Nat.lt_of_lt_of_le h1 (Nat.le_trans (Nat.pow_le_pow_right (by decide) h2) (by decide)))
  · split
    · simp
    · rename_i h
      have h1 := decNat_lt (l.take (many digitC l)) (many_take _)
      have h2 : (l.take (many digitC l)).length ≤ 18 := by
        rw [List.length_take]
        omega
      have h3 := Nat.lt_of_lt_of_le h1 (Nat.le_trans (Nat.pow_le_pow_right (by decide) h2) (show (10 : Nat) ^ 18 ≤ 9223372036854775807 by decide))
      show -9223372036854775808 ≤ ((decNat (l.take (many digitC l)) : Nat) : Int) ∧ ((decNat (l.take (many digitC l)) : Nat) : Int) < 9223372036854775808
      omega
theorem num_le (l : List UInt8) : (numL l).2 ≤ l.length := by
  unfold numL
  split
  · rename_i h
    split
    · simp
    · have := many_le (p := hexC) (l.drop 2)
      rw [List.length_drop] at this
      show many hexC (l.drop 2) + 2 ≤ l.length
      omega
  · split
    · simp
    · exact many_le l
end Go.Proofs.YtgihgmniijhfoaaDoor.Lex
namespace Go.Proofs.YtgihgmniijhfoaaDoor.Lex
set_option linter.unusedSimpArgs false
set_option linter.unusedVariables false

def Ends (u : List UInt8) : Prop := u = [] ∨ ∃ t, u = 32 :: t
theorem num_app {l u : List UInt8} (hu : Ends u) (h0 : (numL l).2 ≠ 0) (hn : (numL l).2 = many insideC l) : numL (l ++ u) = numL l := by
  unfold numL at h0 hn ⊢
  by_cases hx : 2 < l.length ∧ l.take 2 = [48, 120]
  · rw [if_pos hx] at h0 hn ⊢
    have e2 : (l ++ u).take 2 = l.take 2 := List.take_append_of_le_length (by omega)
    have e3 : (l ++ u).drop 2 = l.drop 2 ++ u := List.drop_append_of_le_length (by omega)
    have e4 : many hexC (l.drop 2 ++ u) = many hexC (l.drop 2) := many_app hu hex32 _
    rw [if_pos ⟨by rw [List.length_append]; omega, by rw [e2]; exact hx.2⟩, e3, e4, List.take_append_of_le_length (many_le _)]
  · rw [if_neg hx] at h0 hn ⊢
    have e4 : many digitC (l ++ u) = many digitC l := many_app hu digit32 _
    have hd := many_le (p := digitC) l
    have hd0 : many digitC l ≠ 0 := by
      intro h
      rw [if_pos (.inl h)] at h0
      exact h0 rfl
    have hno : ¬ (2 < (l ++ u).length ∧ (l ++ u).take 2 = [48, 120]) := by
      rintro ⟨g1, g2⟩
      rcases l with _ | ⟨a, _ | ⟨b, t⟩⟩
      · exact hd0 rfl
      · rcases hu with rfl | ⟨t, rfl⟩
        · simp at g2
        · simp at g2
      · have : a = 48 ∧ b = 120 := by simpa using g2
        obtain ⟨rfl, rfl⟩ := this
        cases t with
        | cons x t => exact hx ⟨by simp, by simp⟩
        | nil => exact absurd hn (by decide)
    rw [if_neg hno, e4, List.take_append_of_le_length hd]
theorem next_le (l : List UInt8) : (nextL l).2 ≤ l.length := by
  unfold nextL
  cases l with
  | nil => simp [noTok]
  | cons c r =>
    show (if markC c then _ else _ : Tok × Nat).2 ≤ _
    split
    · simp
    · split
      · split
        · simp [noTok]
        · rename_i h
          have := quoted_bound r 0 [] h
          show (quotedL r 0 []).2 + 1 ≤ _
          simp only [List.length_cons]
          omega
      · split
        · split
          · have := many_le (p := insideC) r
            show 1 + many insideC r ≤ _
            simp only [List.length_cons]
            omega
          · simp [noTok]
        · split
          · exact many_le _
          · split
            · simp [noTok]
            · exact many_le _
theorem next_app {l u : List UInt8} (hu : Ends u) (h : (nextL l).2 ≠ 0) : nextL (l ++ u) = nextL l := by
  cases l with
  | nil => exact absurd rfl h
  | cons c r =>
    have e1 : many insideC (r ++ u) = many insideC r := many_app hu inside32 r
    have e2 : many insideC (c :: (r ++ u)) = many insideC (c :: r) := many_app (p := insideC) hu inside32 (c :: r)
    have e3 : (c :: (r ++ u)).take (1 + many insideC r) = (c :: r).take (1 + many insideC r) := List.take_append_of_le_length (l₁ := c :: r) (by have := many_le (p := insideC) r; simp only [List.length_cons]; omega)
    have e4 : (c :: (r ++ u)).take (many insideC (c :: r)) = (c :: r).take (many insideC (c :: r)) := List.take_append_of_le_length (l₁ := c :: r) (many_le _)
    rw [List.cons_append]
    unfold nextL at h ⊢
    simp only [] at h ⊢
    rw [e1, e2, e3, e4]
    by_cases h1 : markC c
    · rw [if_pos h1, if_pos h1]
    rw [if_neg h1] at h ⊢
    rw [if_neg h1]
    by_cases h2 : c = 34
    · rw [if_pos h2] at h ⊢
      rw [if_pos h2]
      by_cases h3 : (quotedL r 0 []).2 = 0
      · rw [if_pos h3] at h
        exact absurd rfl h
      · rw [quoted_app u r 0 [] h3]
    rw [if_neg h2] at h ⊢
    rw [if_neg h2]
    by_cases h3 : startC c
    · rw [if_pos h3, if_pos h3]
    rw [if_neg h3] at h ⊢
    rw [if_neg h3]
    by_cases h4 : localL ((c :: r).take (many insideC (c :: r)))
    · rw [if_pos h4, if_pos h4]
    rw [if_neg h4] at h ⊢
    rw [if_neg h4]
    by_cases h5 : (numL (c :: r)).2 = 0 ∨ (numL (c :: r)).2 ≠ many insideC (c :: r)
    · rw [if_pos h5] at h
      exact absurd rfl h
    · rw [show c :: (r ++ u) = (c :: r) ++ u from rfl, num_app hu (fun h => h5 (.inl h)) (Decidable.not_not.1 fun h => h5 (.inr h))]

/-! ### all of a line -/
theorem toks_fuel : ∀ (k k' : Nat) (l : List UInt8) (out : List Tok), l.length ≤ k → l.length ≤ k' → toksL k l out = toksL k' l out
  | 0, k', l, out, h, _ => by
    obtain rfl := List.eq_nil_of_length_eq_zero (Nat.le_zero.1 h)
    cases k' <;> rfl
  | k + 1, 0, l, out, _, h => by
    obtain rfl := List.eq_nil_of_length_eq_zero (Nat.le_zero.1 h)
    rfl
  | k + 1, k' + 1, [], out, _, _ => rfl
  | k + 1, k' + 1, c :: r, out, h, h' => by
    simp only [List.length_cons] at h h'
    rw [toksL, toksL]
    split
    · exact toks_fuel k k' r out (by omega) (by omega)
    · split
      · rfl
      · split
        · rfl
        · rename_i h0
          split
          · rfl
          · have := List.length_drop (i := (nextL (c :: r)).2) (l := c :: r)
            simp only [List.length_cons] at this
            exact toks_fuel k k' _ _ (by omega) (by omega)
theorem toks_app (u : List UInt8) : ∀ (k : Nat) (l : List UInt8) (out x : List Tok), l.length ≤ k → toksL k l out = (x, 0) →
    ((35 : UInt8) ∉ l → ∀ K, (l ++ 32 :: u).length ≤ K → toksL K (l ++ 32 :: u) out = toksL K u x) ∧
    ((∀ K, (l ++ 32 :: u).length ≤ K → toksL K (l ++ 32 :: u) out = (x, 0)) ∨ (∀ K, (l ++ 32 :: u).length ≤ K → toksL K (l ++ 32 :: u) out = toksL K u x))
  | k, [], out, x, _, h => by
    have hx : out = x := by
      cases k <;> · rw [toksL] at h; exact (Prod.mk.inj h).1
    subst hx
    have : ∀ K, ([] ++ 32 :: u : List UInt8).length ≤ K → toksL K ([] ++ 32 :: u) out = toksL K u out := by
      intro K hK
      simp only [List.nil_append, List.length_cons] at hK
      obtain ⟨K, rfl⟩ : ∃ m, K = m + 1 := ⟨K - 1, by omega⟩
      show toksL (K + 1) (32 :: u) out = _
      rw [toksL, if_pos (.inl rfl)]
      exact toks_fuel _ _ _ _ (by omega) (by omega)
    exact ⟨fun _ => this, .inr this⟩
  | 0, c :: r, out, x, hk, h => by simp at hk
  | k + 1, c :: r, out, x, hk, h => by
    simp only [List.length_cons] at hk
    rw [toksL] at h
    have step : ∀ K, ((c :: r) ++ 32 :: u).length ≤ K + 1 → toksL (K + 1) ((c :: r) ++ 32 :: u) out = _ := fun K _ => by rw [List.cons_append, toksL]
    by_cases h1 : c = 32 ∨ c = 9
    · rw [if_pos h1] at h
      obtain ⟨g1, g2⟩ := toks_app u k r out x (by omega) h
      have go : ∀ {z : Nat → List Tok × Nat}, (∀ K, u.length ≤ K → z K = z (K + 1)) → (∀ K, (r ++ 32 :: u).length ≤ K → toksL K (r ++ 32 :: u) out = z K) → ∀ K, ((c :: r) ++ 32 :: u).length ≤ K → toksL K ((c :: r) ++ 32 :: u) out = z K := by
        intro z hz g K hK
        simp only [List.cons_append, List.length_cons, List.length_append] at hK
        obtain ⟨K, rfl⟩ : ∃ m, K = m + 1 := ⟨K - 1, by omega⟩
        rw [List.cons_append, toksL, if_pos h1, g K (by simp only [List.length_append, List.length_cons]; omega)]
        exact hz K (by omega)
      have hz1 : ∀ K, u.length ≤ K → toksL K u x = toksL (K + 1) u x := fun K hK => toks_fuel _ _ _ _ hK (by omega)
      exact ⟨fun hn => go (z := fun K => toksL K u x) hz1 (g1 (fun hm => hn (List.mem_cons_of_mem _ hm))), g2.imp (fun g => go (z := fun _ => (x, 0)) (fun _ _ => rfl) g) (fun g => go (z := fun K => toksL K u x) hz1 g)⟩
    · rw [if_neg h1] at h
      by_cases h2 : c = 35
      · rw [if_pos h2] at h
        refine ⟨fun hn => absurd (by simp [h2]) hn, .inl fun K hK => ?_⟩
        simp only [List.cons_append, List.length_cons, List.length_append] at hK
        obtain ⟨K, rfl⟩ : ∃ m, K = m + 1 := ⟨K - 1, by omega⟩
        rw [List.cons_append, toksL, if_neg h1, if_pos h2]
        exact h
      · rw [if_neg h2] at h
        by_cases h3 : (nextL (c :: r)).2 = 0
        · rw [if_pos h3] at h
          exact absurd (Prod.mk.inj h).2 (by decide)
        · rw [if_neg h3] at h
          by_cases h4 : out.length = 64
          · rw [if_pos h4] at h
            exact absurd (Prod.mk.inj h).2 (by decide)
          · rw [if_neg h4] at h
            have hl := next_le (c :: r)
            have hd := List.length_drop (i := (nextL (c :: r)).2) (l := c :: r)
            simp only [List.length_cons] at hd hl
            obtain ⟨g1, g2⟩ := toks_app u k _ _ x (by omega) h
            have ea : nextL (c :: (r ++ 32 :: u)) = nextL (c :: r) := next_app (l := c :: r) (.inr ⟨u, rfl⟩) h3
            have ed : (c :: (r ++ 32 :: u)).drop (nextL (c :: r)).2 = (c :: r).drop (nextL (c :: r)).2 ++ 32 :: u := List.drop_append_of_le_length (l₁ := c :: r) (by simpa using hl)
            have go : ∀ {z : Nat → List Tok × Nat}, (∀ K, u.length ≤ K → z K = z (K + 1)) → (∀ K, ((c :: r).drop (nextL (c :: r)).2 ++ 32 :: u).length ≤ K → toksL K ((c :: r).drop (nextL (c :: r)).2 ++ 32 :: u) (out ++ [(nextL (c :: r)).1]) = z K) → ∀ K, ((c :: r) ++ 32 :: u).length ≤ K → toksL K ((c :: r) ++ 32 :: u) out = z K := by
              intro z hz g K hK
              simp only [List.cons_append, List.length_cons, List.length_append] at hK
              obtain ⟨K, rfl⟩ : ∃ m, K = m + 1 := ⟨K - 1, by omega⟩
              rw [List.cons_append, toksL, if_neg h1, if_neg h2, ea, if_neg h3, if_neg h4, ed, g K (by simp only [List.length_append, List.length_cons]; omega)]
              exact hz K (by omega)
            have hz1 : ∀ K, u.length ≤ K → toksL K u x = toksL (K + 1) u x := fun K hK => toks_fuel _ _ _ _ hK (by omega)
            exact ⟨fun hn => go (z := fun K => toksL K u x) hz1 (g1 (fun hm => hn (List.mem_of_mem_drop hm))), g2.imp (fun g => go (z := fun _ => (x, 0)) (fun _ _ => rfl) g) (fun g => go (z := fun K => toksL K u x) hz1 g)⟩
theorem toks_ahead : ∀ (k : Nat) (l : List UInt8) (out y : List Tok), toksL k l out = (y, 0) → ∃ z, y = out ++ z ∧ ∀ x : List Tok, x.length ≤ 64 → toksL k l x = if x.length + z.length ≤ 64 then (x ++ z, 0) else ([], 4)
  | 0, l, out, y, h => by
    rw [toksL] at h
    exact ⟨[], by rw [(Prod.mk.inj h).1]; simp, fun x hx => by rw [toksL, if_pos (by simpa using hx)]; simp⟩
  | k + 1, [], out, y, h => by
    rw [toksL] at h
    exact ⟨[], by rw [(Prod.mk.inj h).1]; simp, fun x hx => by rw [toksL, if_pos (by simpa using hx)]; simp⟩
  | k + 1, c :: r, out, y, h => by
    rw [toksL] at h
    by_cases h1 : c = 32 ∨ c = 9
    · rw [if_pos h1] at h
      obtain ⟨z, hy, hz⟩ := toks_ahead k r out y h
      exact ⟨z, hy, fun x hx => by rw [toksL, if_pos h1]; exact hz x hx⟩
    · rw [if_neg h1] at h
      by_cases h2 : c = 35
      · rw [if_pos h2] at h
        exact ⟨[], by rw [(Prod.mk.inj h).1]; simp, fun x hx => by rw [toksL, if_neg h1, if_pos h2, if_pos (by simpa using hx)]; simp⟩
      · rw [if_neg h2] at h
        by_cases h3 : (nextL (c :: r)).2 = 0
        · rw [if_pos h3] at h
          exact absurd (Prod.mk.inj h).2 (by decide)
        · rw [if_neg h3] at h
          by_cases h4 : out.length = 64
          · rw [if_pos h4] at h
            exact absurd (Prod.mk.inj h).2 (by decide)
          · rw [if_neg h4] at h
            obtain ⟨z, hy, hz⟩ := toks_ahead k _ _ y h
            refine ⟨(nextL (c :: r)).1 :: z, by rw [hy]; simp, fun x hx => ?_⟩
            rw [toksL, if_neg h1, if_neg h2, if_neg h3]
            by_cases h5 : x.length = 64
            · rw [if_pos h5, if_neg (by simp only [List.length_cons]; omega)]
            · rw [if_neg h5, hz _ (by rw [List.length_append, List.length_singleton]; omega)]
              simp only [List.length_append, List.length_cons, List.length_nil, Nat.zero_add, List.append_assoc, List.singleton_append]
              by_cases h6 : x.length + 1 + z.length ≤ 64
              · rw [if_pos h6, if_pos (by omega)]
              · rw [if_neg h6, if_neg (by omega)]

/-! ### tokens that may be -/
theorem nameL_cons {l : List UInt8} (h : nameL l = true) : ∃ c t, l = c :: t ∧ t.length < 32 ∧ startC c = true ∧ many insideC t = t.length := by
  cases l with
  | nil => cases h
  | cons c t =>
    simp only [nameL, Bool.and_eq_true, decide_eq_true_eq] at h
    exact ⟨c, t, rfl, h.1.1, h.1.2, h.2⟩
theorem local_facts {l : List UInt8} (h : localL l = true) : 1 ≤ many digitC l ∧ many digitC l ≤ 9 ∧ l.length = many digitC l + 1 ∧ insideC (l.getD (many digitC l) 0) = true ∧ many insideC l = l.length := by
  simp only [localL, Bool.and_eq_true, decide_eq_true_eq, Bool.or_eq_true, beq_iff_eq] at h
  obtain ⟨⟨⟨h1, h2⟩, h3⟩, h4⟩ := h
  have h5 : insideC (l.getD (many digitC l) 0) = true := by
    rcases h4 with h4 | h4 <;> (rw [h4]; decide)
  refine ⟨h1, h2, h3, h5, many_all _ fun c hc => ?_⟩
  have e : l = l.take (many digitC l) ++ [l.getD (many digitC l) 0] := by
    have e1 : l.drop (many digitC l) = [l.getD (many digitC l) 0] := by
      rw [List.drop_eq_getElem_cons (by omega), List.drop_eq_nil_of_le (by omega)]
      simp [List.getD, List.getElem?_eq_getElem (show many digitC l < l.length by omega)]
    conv => lhs; rw [← List.take_append_drop (many digitC l) l, e1]
  rw [e] at hc
  rcases List.mem_append.1 hc with hc | hc
  · exact (digit_facts c (many_take l c hc)).2.2.2.2.2.2.1
  · obtain rfl := List.mem_singleton.1 hc
    exact h5
theorem text_dec {x : Tok} (h1 : x.k = 2) (h2 : 0 ≤ x.n ∧ x.n < 1000000000000000000) : textL x = (decL x.n.toNat, decide (x.t = [])) := by
  unfold textL
  rw [if_neg (by omega), if_neg (by omega), if_neg (by omega), if_pos h1, if_pos h2]
theorem text_hex {x : Tok} (h1 : x.k = 2) (h2 : ¬ (0 ≤ x.n ∧ x.n < 1000000000000000000)) : textL x = ([48, 120] ++ hexPad 16 (ofI64 x.n), decide (x.t = [])) := by
  unfold textL
  rw [if_neg (by omega), if_neg (by omega), if_neg (by omega), if_pos h1, if_neg h2]
/-- A token that may be, ahead of a blank or a line's end, is read as it was. -/
theorem next_text {x : Tok} (hm : mayL x = true) (hn : numOk x) {u : List UInt8} (hu : Ends u) :
    nextL ((textL x).1 ++ u) = (x, (textL x).1.length) ∧ ∃ c r, (textL x).1 = c :: r ∧ c ≠ 32 ∧ c ≠ 9 ∧ c ≠ 35 := by
  obtain ⟨k, t, n⟩ := x
  unfold mayL at hm
  by_cases k1 : k = 1
  · subst k1
    simp only [textL, if_pos, Bool.and_eq_true, decide_eq_true_eq, Bool.or_eq_true] at hm ⊢
    obtain ⟨rfl, hm⟩ := hm
    by_cases hN : nameL t = true
    · obtain ⟨c, r, rfl, h1, h2, h3⟩ := nameL_cons hN
      obtain ⟨f1, f2, f3, f4, f5⟩ := start_facts c h2
      refine ⟨?_, c, r, rfl, f3, f4, f5⟩
      have e1 : many insideC (r ++ u) = r.length := by rw [many_app hu inside32, h3]
      have e3 : (c :: (r ++ u)).take (1 + r.length) = c :: r := by
        rw [show c :: (r ++ u) = (c :: r) ++ u from rfl, List.take_left' (by simp; omega)]
      rw [List.cons_append]
      unfold nextL
      simp only []
      rw [if_neg (by simp [f1]), if_neg f2, if_pos h2, e1, e3, if_pos hN, Nat.add_comm]
      rfl
    · have hL : localL t = true := hm.resolve_left hN
      obtain ⟨h1, h2, h3, h4, h5⟩ := local_facts hL
      obtain ⟨c, r, rfl⟩ : ∃ c r, t = c :: r := by
        cases t with
        | nil => simp at h3
        | cons c r => exact ⟨c, r, rfl⟩
      have hd : digitC c = true := by
        simp only [many] at h1
        split at h1
        · assumption
        · omega
      obtain ⟨f1, f2, f3, f4, f5, f6, f7, f8, f9⟩ := digit_facts c hd
      refine ⟨?_, c, r, rfl, f3, f4, f5⟩
      have e2 : many insideC (c :: (r ++ u)) = (c :: r).length := by
        rw [show c :: (r ++ u) = (c :: r) ++ u from rfl, many_app hu inside32, h5]
      have e3 : (c :: (r ++ u)).take (c :: r).length = c :: r := by
        rw [show c :: (r ++ u) = (c :: r) ++ u from rfl, List.take_left]
      rw [List.cons_append]
      unfold nextL
      simp only []
      rw [if_neg (by simp [f1]), if_neg f2, if_neg (by simp [f6]), e2, e3, if_pos hL]
  by_cases k4 : k = 4
  · subst k4
    have e : textL ⟨4, t, n⟩ = (t, decide (n = 0) && decide (t.length = 1) && markC (t.getD 0 0)) := rfl
    rw [e] at hm ⊢
    simp only [Bool.and_eq_true, decide_eq_true_eq] at hm ⊢
    obtain ⟨⟨rfl, h1⟩, h2⟩ := hm
    obtain ⟨c, rfl⟩ : ∃ c, t = [c] := List.length_eq_one_iff.1 h1
    have h3 : markC c = true := by simpa using h2
    refine ⟨?_, c, [], rfl, mark_facts c h3⟩
    show nextL (c :: u) = _
    unfold nextL
    simp only []
    rw [if_pos h3]
    rfl
  by_cases k3 : k = 3
  · subst k3
    cases hs : shownL t [34] with
    | none =>
      have e : textL ⟨3, t, n⟩ = ([], false) := by unfold textL; simp [hs]
      rw [e] at hm
      cases hm
    | some z =>
      have e : textL ⟨3, t, n⟩ = (z, decide (n = 0) && decide (t.length ≤ 256)) := by unfold textL; simp [hs]
      rw [e] at hm ⊢
      simp only [Bool.and_eq_true, decide_eq_true_eq] at hm ⊢
      obtain ⟨rfl, h1⟩ := hm
      obtain ⟨w, rfl, hw, hq⟩ := shown_back t [34] z hs
      refine ⟨?_, 34, w, rfl, by decide, by decide, by decide⟩
      have hq := hq u 0 []
      show nextL (34 :: (w ++ u)) = _
      have hw0 : w.length ≠ 0 := by simpa using hw
      unfold nextL
      simp only []
      rw [if_neg (by decide), if_pos (by trivial), hq, if_neg (by simpa using hw)]
      simp
  by_cases k2 : k = 2
  · subst k2
    by_cases h2 : 0 ≤ n ∧ n < 1000000000000000000
    · rw [text_dec rfl h2] at hm ⊢
      simp only [decide_eq_true_eq] at hm ⊢
      subst hm
      obtain ⟨m, rfl⟩ := Int.eq_ofNat_of_zero_le h2.1
      simp only [Int.toNat_natCast]
      have hall := dec_all m
      have hval := dec_val m
      have hlen : (decL m).length ≤ 18 := dec_len 18 m (by decide) (by omega)
      obtain ⟨c, r, he⟩ : ∃ c r, decL m = c :: r := by
        cases h : decL m with
        | nil => exact absurd h (dec_ne m)
        | cons c r => exact ⟨c, r, rfl⟩
      rw [he] at hall hval hlen ⊢
      obtain ⟨f1, f2, f3, f4, f5, f6, f7, f8, f9⟩ := digit_facts c (hall c (by simp))
      refine ⟨?_, c, r, rfl, f3, f4, f5⟩
      have e1 : many digitC (c :: (r ++ u)) = (c :: r).length := by
        rw [show c :: (r ++ u) = (c :: r) ++ u from rfl, many_app hu digit32, many_all _ hall]
      have e1' : many digitC (c :: r) = (c :: r).length := many_all _ hall
      have e2 : many insideC (c :: (r ++ u)) = (c :: r).length := by
        rw [show c :: (r ++ u) = (c :: r) ++ u from rfl, many_app hu inside32, many_all _ (fun x hx => (digit_facts x (hall x hx)).2.2.2.2.2.2.1)]
      have e3 : (c :: (r ++ u)).take (c :: r).length = c :: r := by
        rw [show c :: (r ++ u) = (c :: r) ++ u from rfl, List.take_left]
      have hL : localL (c :: r) = false := by
        unfold localL
        rw [e1']
        simp
      have hx : ¬ (2 < (c :: (r ++ u)).length ∧ (c :: (r ++ u)).take 2 = [48, 120]) := by
        rintro ⟨g1, g2⟩
        cases r with
        | nil =>
          rcases hu with rfl | ⟨t, rfl⟩
          · simp at g1
          · simp at g2
        | cons d r =>
          have : d = 120 := by
            simp at g2
            exact g2.2
          exact (digit_facts d (hall d (by simp))).2.2.2.2.2.2.2.1 this
      have hN : numL (c :: (r ++ u)) = ((m : Int), (c :: r).length) := by
        unfold numL
        rw [if_neg hx, e1, if_neg (by simp only [List.length_cons] at hlen ⊢; omega), e3, hval]
      rw [List.cons_append]
      unfold nextL
      simp only []
      rw [if_neg (by simp [f1]), if_neg f2, if_neg (by simp [f6]), e2, e3, if_neg (by simp [hL]), hN, if_neg (by simp)]
    · rw [text_hex rfl h2] at hm ⊢
      simp only [decide_eq_true_eq] at hm ⊢
      subst hm
      have hv := hexPad_val 16 (ofI64 n)
      rw [Nat.mod_eq_of_lt (ofI64_lt n)] at hv
      have hl := hexPad_len 16 (ofI64 n)
      have hi : ∀ c ∈ hexPad 16 (ofI64 n), insideC c = true := hexPad_all (fun m hm => (hexDig_facts m hm).1) _ _
      have hh : ∀ c ∈ hexPad 16 (ofI64 n), hexC c = true := hexPad_all (fun m hm => (hexDig_facts m hm).2.1) _ _
      generalize hexPad 16 (ofI64 n) = w at hv hl hi hh
      refine ⟨?_, 48, 120 :: w, rfl, by decide, by decide, by decide⟩
      have hia : ∀ c ∈ (48 :: 120 :: w : List UInt8), insideC c = true := by
        intro c hc
        rcases List.mem_cons.1 hc with rfl | hc
        · decide
        · rcases List.mem_cons.1 hc with rfl | hc
          · decide
          · exact hi c hc
      have e2 : many insideC (48 :: 120 :: (w ++ u)) = 18 := by
        rw [show 48 :: 120 :: (w ++ u) = (48 :: 120 :: w) ++ u from rfl, many_app hu inside32, many_all _ hia]
        simp [hl]
      have e3 : (48 :: 120 :: (w ++ u)).take 18 = 48 :: 120 :: w := by
        rw [show 48 :: 120 :: (w ++ u) = (48 :: 120 :: w) ++ u from rfl, List.take_left' (by simp [hl])]
      have e5 : many hexC (w ++ u) = 16 := by rw [many_app hu hex32, many_all _ hh, hl]
      have hL : localL (48 :: 120 :: w) = false := by
        have : many digitC (48 :: 120 :: w) = 1 := rfl
        unfold localL
        rw [this]
        simp [hl]
      have hN : numL (48 :: 120 :: (w ++ u)) = (n, 18) := by
        unfold numL
        rw [if_pos ⟨by simp; omega, rfl⟩]
        show (if many hexC (w ++ u) = 0 ∨ 16 < many hexC (w ++ u) then _ else (toI64 (hexNat ((w ++ u).take (many hexC (w ++ u)))), many hexC (w ++ u) + 2)) = _
        rw [e5, if_neg (by decide), List.take_left' hl, hv, toI64_ofI64 hn.1 hn.2]
      show nextL (48 :: 120 :: (w ++ u)) = (_, ([48, 120] ++ w).length)
      have hlen : ([48, 120] ++ w).length = 18 := by simp [hl]
      unfold nextL
      simp only []
      rw [if_neg (by decide), if_neg (by decide), if_neg (by decide), e2, e3, if_neg (by simp [hL]), hN, if_neg (by simp), hlen]
  · have e : textL ⟨k, t, n⟩ = ([], false) := by unfold textL; simp [k1, k2, k3, k4]
    rw [e] at hm
    cases hm
/-- What is read may be. -/
theorem next_may {l : List UInt8} (hl : l.length ≤ 256) (h : (nextL l).2 ≠ 0) : mayL (nextL l).1 = true ∧ numOk (nextL l).1 := by
  cases l with
  | nil => exact absurd rfl h
  | cons c r =>
    unfold nextL at h ⊢
    simp only [] at h ⊢
    by_cases h1 : markC c
    · rw [if_pos h1]
      refine ⟨?_, by simp [numOk]⟩
      simp [mayL, textL, h1]
    rw [if_neg h1] at h ⊢
    by_cases h2 : c = 34
    · rw [if_pos h2] at h ⊢
      by_cases h3 : (quotedL r 0 []).2 = 0
      · rw [if_pos h3] at h
        exact absurd rfl h
      rw [if_neg h3] at h ⊢
      refine ⟨?_, by simp [numOk]⟩
      have hb := quoted_bound r 0 [] h3
      have ht := quoted_tell r 0 [] (by simp)
      obtain ⟨z, hz⟩ := shown_some (quotedL r 0 []).1 [34] ht
      simp only [List.length_cons, List.length_nil] at hl hb
      simp only [mayL, textL]
      rw [if_neg (by decide), if_neg (by decide), if_pos (by trivial), hz]
      simp
      omega
    rw [if_neg h2] at h ⊢
    by_cases h3 : startC c
    · rw [if_pos h3] at h ⊢
      by_cases h4 : nameL ((c :: r).take (1 + many insideC r))
      · rw [if_pos h4]
        exact ⟨by simp [mayL, textL, h4], by simp [numOk]⟩
      · rw [if_neg h4] at h
        exact absurd rfl h
    rw [if_neg h3] at h ⊢
    by_cases h4 : localL ((c :: r).take (many insideC (c :: r)))
    · rw [if_pos h4]
      exact ⟨by simp [mayL, textL, h4], by simp [numOk]⟩
    rw [if_neg h4] at h ⊢
    by_cases h5 : (numL (c :: r)).2 = 0 ∨ (numL (c :: r)).2 ≠ many insideC (c :: r)
    · rw [if_pos h5] at h
      exact absurd rfl h
    · rw [if_neg h5]
      refine ⟨?_, num_range _⟩
      simp only [mayL, textL]
      rw [if_neg (by decide), if_neg (by decide), if_neg (by decide), if_pos (by trivial)]
      split <;> simp
theorem toks_may : ∀ (k : Nat) (l : List UInt8) (out x : List Tok), l.length ≤ 256 → (∀ t ∈ out, mayL t = true ∧ numOk t) → out.length ≤ 64 → toksL k l out = (x, 0) → (∀ t ∈ x, mayL t = true ∧ numOk t) ∧ x.length ≤ 64
  | 0, l, out, x, _, ho, hn, h => by
    rw [toksL] at h
    rw [← (Prod.mk.inj h).1]
    exact ⟨ho, hn⟩
  | k + 1, [], out, x, _, ho, hn, h => by
    rw [toksL] at h
    rw [← (Prod.mk.inj h).1]
    exact ⟨ho, hn⟩
  | k + 1, c :: r, out, x, hl, ho, hn, h => by
    rw [toksL] at h
    split at h
    · exact toks_may k r out x (by simp at hl; omega) ho hn h
    · split at h
      · rw [← (Prod.mk.inj h).1]
        exact ⟨ho, hn⟩
      · split at h
        · exact absurd (Prod.mk.inj h).2 (by decide)
        · rename_i h3
          split at h
          · exact absurd (Prod.mk.inj h).2 (by decide)
          · rename_i h4
            refine toks_may k _ _ x (by rw [List.length_drop]; omega) (fun t ht => ?_) (by rw [List.length_append, List.length_singleton]; omega) h
            rcases List.mem_append.1 ht with ht | ht
            · exact ho t ht
            · obtain rfl := List.mem_singleton.1 ht
              exact next_may hl h3
theorem toks_join : ∀ (l out : List Tok), out.length + l.length ≤ 64 → (∀ t ∈ l, mayL t = true ∧ numOk t) → ∀ K, (joinL (l.map fun x => (textL x).1)).length ≤ K → toksL K (joinL (l.map fun x => (textL x).1)) out = (out ++ l, 0)
  | [], out, _, _, K, _ => by
    show toksL K [] out = _
    cases K <;> simp [toksL]
  | [x], out, hn, hm, K, hK => by
    obtain ⟨hx, c, r, hc, n1, n2, n3⟩ := next_text (u := []) (hm x (by simp)).1 (hm x (by simp)).2 (.inl rfl)
    rw [List.append_nil] at hx
    show toksL K (textL x).1 out = _
    change (textL x).1.length ≤ K at hK
    rw [hc] at hK hx ⊢
    simp only [List.length_cons] at hK hn
    obtain ⟨K, rfl⟩ : ∃ m, K = m + 1 := ⟨K - 1, by omega⟩
    rw [toksL, if_neg (by simp [n1, n2]), if_neg n3, hx, if_neg (by simp), if_neg (by simp at hn; omega)]
    show toksL K ((c :: r).drop (c :: r).length) _ = _
    rw [List.drop_length]
    cases K <;> simp [toksL]
  | x :: y :: l, out, hn, hm, K, hK => by
    obtain ⟨hx, c, r, hc, n1, n2, n3⟩ := next_text (u := 32 :: joinL ((y :: l).map fun x => (textL x).1)) (hm x (by simp)).1 (hm x (by simp)).2 (.inr ⟨_, rfl⟩)
    have e : joinL ((x :: y :: l).map fun x => (textL x).1) = (textL x).1 ++ 32 :: joinL ((y :: l).map fun x => (textL x).1) := rfl
    rw [e] at hK ⊢
    have ih := toks_join (y :: l) (out ++ [x]) (by simp only [List.length_append, List.length_cons, List.length_nil] at hn ⊢; omega) (fun t ht => hm t (by simp [List.mem_cons.1 ht]))
    generalize joinL ((y :: l).map fun x => (textL x).1) = J at hK hx ih ⊢
    rw [hc] at hK hx ⊢
    simp only [List.length_append, List.length_cons, List.cons_append] at hK hn hx ⊢
    obtain ⟨K, rfl⟩ : ∃ m, K = m + 1 := ⟨K - 1, by omega⟩
    rw [toksL, if_neg (by simp [n1, n2]), if_neg n3, hx, if_neg (by simp), if_neg (by omega)]
    show toksL K ((c :: (r ++ 32 :: J)).drop (r.length + 1)) _ = _
    rw [List.drop_succ_cons, List.drop_left]
    obtain ⟨K, rfl⟩ : ∃ m, K = m + 1 := ⟨K - 1, by omega⟩
    rw [toksL, if_pos (.inl rfl), ih K (by omega)]
    simp
/-- What is written is read back. -/
theorem tokens_write {l : List Tok} {s : List UInt8} (h : writeL l = (s, 0)) (hn : ∀ t ∈ l, numOk t) : tokensL s = (l, 0) := by
  unfold writeL at h
  split at h
  · exact absurd (Prod.mk.inj h).2 (by decide)
  · rename_i h1
    split at h
    · exact absurd (Prod.mk.inj h).2 (by decide)
    · rename_i h2
      split at h
      · exact absurd (Prod.mk.inj h).2 (by decide)
      · rename_i h3
        rw [← (Prod.mk.inj h).1]
        unfold tokensL
        rw [if_neg h3, toks_join l [] (by simp; omega) (fun t ht => ⟨?_, hn t ht⟩) _ (Nat.le_refl _)]
        · simp
        · exact List.all_eq_true.1 (by simpa using h2) t ht
theorem write_err {l : List Tok} (h : (writeL l).2 ≠ 0) : (writeL l).1 = [] := by
  unfold writeL at h ⊢
  split
  · rfl
  · split
    · rfl
    · split
      · rfl
      · rename_i h1 h2 h3
        rw [if_neg h1, if_neg h2, if_neg h3] at h
        exact absurd rfl h
theorem tokens_err {l : List UInt8} (h : (tokensL l).2 ≠ 0) : (tokensL l).1 = [] := by
  have : ∀ (k : Nat) (l : List UInt8) (out : List Tok), (toksL k l out).2 ≠ 0 → (toksL k l out).1 = [] := by
    intro k
    induction k with
    | zero => intro l out h; exact absurd rfl h
    | succ k ih =>
      intro l out
      cases l with
      | nil => intro h; exact absurd rfl h
      | cons c r =>
        rw [toksL]
        split
        · exact ih _ _
        · split
          · intro h; exact absurd rfl h
          · split
            · intro _; rfl
            · split
              · intro _; rfl
              · exact ih _ _
  unfold tokensL at h ⊢
  split
  · rfl
  · rename_i h1
    rw [if_neg h1] at h
    exact this _ _ _ h
/-- What is read may be; written where there is room, it is read as the same. -/
theorem tokens_may {s : List UInt8} {l : List Tok} (h : tokensL s = (l, 0)) : (∀ t ∈ l, mayL t = true ∧ numOk t) ∧ l.length ≤ 64 := by
  unfold tokensL at h
  split at h
  · exact absurd (Prod.mk.inj h).2 (by decide)
  · exact toks_may _ s [] l (by omega) (by simp) (by simp) h
theorem write_tokens {s : List UInt8} {l : List Tok} (h : tokensL s = (l, 0)) : (writeL l).2 = 0 ∨ (writeL l).2 = 3 := by
  obtain ⟨h1, h2⟩ := tokens_may h
  unfold writeL
  rw [if_neg (by omega), if_neg (by simp only [Bool.not_eq_false]; exact List.all_eq_true.2 fun t ht => (h1 t ht).1)]
  split
  · exact .inr rfl
  · exact .inl rfl
/-- Two lines, the first without a remark: read together. -/
theorem tokens_parts {a b : List UInt8} {x y : List Tok} (ha : tokensL a = (x, 0)) (hb : tokensL b = (y, 0)) (hn : (35 : UInt8) ∉ a) (hl : a.length + b.length + 1 ≤ 256) :
    tokensL (a ++ 32 :: b) = if x.length + y.length ≤ 64 then (x ++ y, 0) else ([], 4) := by
  have hx := (tokens_may ha).2
  have hlen : (a ++ 32 :: b).length = a.length + b.length + 1 := by simp; omega
  unfold tokensL at ha hb ⊢
  rw [if_neg (by omega)] at ha hb
  rw [if_neg (by omega), (toks_app b a.length a [] x (Nat.le_refl _) ha).1 hn _ (Nat.le_refl _)]
  rw [toks_fuel _ b.length _ _ (by omega) (Nat.le_refl _)]
  obtain ⟨z, hy, hz⟩ := toks_ahead b.length b [] y hb
  rw [hz x hx, hy]
  simp
/-- Blanks ahead, behind, and a remark. -/
theorem tokens_blanks {a : List UInt8} {x : List Tok} (rem : List UInt8) (ha : tokensL a = (x, 0)) (hl : (32 :: 9 :: (a ++ 32 :: 9 :: 35 :: rem)).length ≤ 256) :
    tokensL (32 :: 9 :: (a ++ 32 :: 9 :: 35 :: rem)) = (x, 0) := by
  unfold tokensL at ha ⊢
  simp only [List.length_cons, List.length_append] at hl
  rw [if_neg (by omega)] at ha
  rw [if_neg (by simp only [List.length_cons, List.length_append]; omega)]
  have e : ∀ K, toksL (K + 2) (32 :: 9 :: (a ++ 32 :: 9 :: 35 :: rem)) [] = toksL K (a ++ 32 :: 9 :: 35 :: rem) [] := fun K => by
    rw [toksL, if_pos (.inl rfl), toksL, if_pos (.inr rfl)]
  show toksL ((a ++ 32 :: 9 :: 35 :: rem).length + 1 + 1) _ _ = _
  rw [e]
  rcases (toks_app (9 :: 35 :: rem) a.length a [] x (Nat.le_refl _) ha).2 with h | h
  · exact h _ (Nat.le_refl _)
  · rw [h _ (Nat.le_refl _), show (a ++ 32 :: 9 :: 35 :: rem).length = (a.length + rem.length + 1) + 2 by simp; omega, toksL, if_pos (.inr rfl), toksL, if_neg (by decide), if_pos rfl]
end Go.Proofs.YtgihgmniijhfoaaDoor.Lex
