/- Texts of this seat in one (ZLexSpec, ZLexLaw, ZLexLaw2, ZExprSpec, ZExprLaw, ZExprRef, ZLineSpec), what nothing speaks of left out: by pack.py, a program of this session. -/
import Init
/- What the words of a line are, on lists of bytes: plain Lean, no program in sight. -/
namespace Go.Proofs.YtbfndlfemhidaaaGreatDoor.Lex
set_option linter.unusedSimpArgs false
set_option linter.unusedVariables false

def escL (c : UInt8) : Option UInt8 := if c = 110 then some 10 else if c = 116 then some 9 else if c = 48 then some 0 else if c = 34 then some 34 else if c = 92 then some 92 else none
def unescL (c : UInt8) : UInt8 := if c = 10 then 110 else if c = 9 then 116 else if c = 0 then 48 else if c = 34 then 34 else if c = 92 then 92 else 0
def plainC (c : UInt8) : Bool := 32 ≤ c && c ≤ 126
def quotedL : List UInt8 → Nat → List UInt8 → List UInt8 × Nat
 | [], _, _ => ([], 0)
 | [c], i, b => if c = 34 then (b, i + 1) else ([], 0)
 | c :: x :: t, i, b =>
  if c = 34 then (b, i + 1)
  else if c = 92 then (match escL x with | none => ([], 0) | some y => quotedL t (i + 2) (b ++ [y]))
  else if plainC c then quotedL (x :: t) (i + 1) (b ++ [c]) else ([], 0)
def digitC (c : UInt8) : Bool := 48 ≤ c && c ≤ 57
def startC (c : UInt8) : Bool := (97 ≤ c && c ≤ 122) || (65 ≤ c && c ≤ 90) || c == 95 || c == 46 || c == 36 || c == 37
def insideC (c : UInt8) : Bool := startC c && c != 37 || digitC c
def markC (c : UInt8) : Bool := c == 44 || c == 40 || c == 41 || c == 43 || c == 45 || c == 58
def hexC (c : UInt8) : Bool := digitC c || (97 ≤ c && c ≤ 102) || (65 ≤ c && c ≤ 70)
def many (p : UInt8 → Bool) : List UInt8 → Nat
 | [] => 0
 | c :: t => if p c then many p t + 1 else 0
def nameL (l : List UInt8) : Bool := match l with | [] => false | c :: t => decide (t.length < 32) && startC c && decide (many insideC t = t.length)
def localL (l : List UInt8) : Bool := decide (1 ≤ many digitC l) && decide (many digitC l ≤ 9) && decide (l.length = many digitC l + 1) && (l.getD (many digitC l) 0 == 102 || l.getD (many digitC l) 0 == 98)
def hexVal (c : UInt8) : Nat := if digitC c then c.toNat - 48 else if 97 ≤ c then c.toNat - 87 else c.toNat - 55
def hexNat (l : List UInt8) : Nat := l.foldl (fun a c => a * 16 + hexVal c) 0
def decNat (l : List UInt8) : Nat := l.foldl (fun a c => a * 10 + (c.toNat - 48)) 0
def toI64 (n : Nat) : Int := if n < 9223372036854775808 then n else (n : Int) - 18446744073709551616
def numL (l : List UInt8) : Int × Nat :=
 if 2 < l.length ∧ l.take 2 = [48, 120] then
  (if many hexC (l.drop 2) = 0 ∨ 16 < many hexC (l.drop 2) then (0, 0) else (toI64 (hexNat ((l.drop 2).take (many hexC (l.drop 2)))), many hexC (l.drop 2) + 2))
 else if many digitC l = 0 ∨ 18 < many digitC l then (0, 0) else ((decNat (l.take (many digitC l)) : Int), many digitC l)
structure Tok where
 k : Nat
 t : List UInt8
 n : Int
deriving DecidableEq, Inhabited
def noTok : Tok × Nat := (⟨0, [], 0⟩, 0)
def nextL (l : List UInt8) : Tok × Nat := match l with
 | [] => noTok
 | c :: r =>
  if markC c then (⟨4, [c], 0⟩, 1)
  else if c = 34 then (if (quotedL r 0 []).2 = 0 then noTok else (⟨3, (quotedL r 0 []).1, 0⟩, (quotedL r 0 []).2 + 1))
  else if startC c then (if nameL (l.take (1 + many insideC r)) then (⟨1, l.take (1 + many insideC r), 0⟩, 1 + many insideC r) else noTok)
  else if localL (l.take (many insideC l)) then (⟨1, l.take (many insideC l), 0⟩, many insideC l)
  else if (numL l).2 = 0 ∨ (numL l).2 ≠ many insideC l then noTok else (⟨2, [], (numL l).1⟩, many insideC l)
def toksL : Nat → List UInt8 → List Tok → List Tok × Nat
 | 0, _, out => (out, 0)
 | _ + 1, [], out => (out, 0)
 | k + 1, c :: r, out =>
  if c = 32 ∨ c = 9 then toksL k r out
  else if c = 35 then (out, 0)
  else if (nextL (c :: r)).2 = 0 then ([], 150)
  else if out.length = 64 then ([], 4)
  else toksL k ((c :: r).drop (nextL (c :: r)).2) (out ++ [(nextL (c :: r)).1])
def tokensL (l : List UInt8) : List Tok × Nat := if 256 < l.length then ([], 3) else toksL l.length l []
def shownL : List UInt8 → List UInt8 → Option (List UInt8)
 | [], b => some (b ++ [34])
 | c :: t, b => if unescL c ≠ 0 then shownL t (b ++ [92, unescL c]) else if plainC c then shownL t (b ++ [c]) else none
def hexDig (n : Nat) : UInt8 := if n < 10 then UInt8.ofNat (48 + n) else UInt8.ofNat (87 + n)
def decDig (n : Nat) : UInt8 := UInt8.ofNat (48 + n)
def hexPad : Nat → Nat → List UInt8
 | 0, _ => []
 | k + 1, n => hexPad k (n / 16) ++ [hexDig (n % 16)]
def decL (n : Nat) : List UInt8 := if n < 10 then [decDig n] else decL (n / 10) ++ [decDig (n % 10)]
def ofI64 (n : Int) : Nat := (n % 18446744073709551616).toNat
def textL (x : Tok) : List UInt8 × Bool :=
 if x.k = 1 then (x.t, decide (x.n = 0) && (nameL x.t || localL x.t))
 else if x.k = 4 then (x.t, decide (x.n = 0) && decide (x.t.length = 1) && markC (x.t.getD 0 0))
 else if x.k = 3 then (match shownL x.t [34] with | none => ([], false) | some s => (s, decide (x.n = 0) && decide (x.t.length ≤ 256)))
 else if x.k = 2 then (if 0 ≤ x.n ∧ x.n < 1000000000000000000 then (decL x.n.toNat, decide (x.t = [])) else ([48, 120] ++ hexPad 16 (ofI64 x.n), decide (x.t = [])))
 else ([], false)
def mayL (x : Tok) : Bool := (textL x).2
def joinL : List (List UInt8) → List UInt8
 | [] => []
 | [a] => a
 | a :: b :: l => a ++ 32 :: joinL (b :: l)
def writeL (l : List Tok) : List UInt8 × Nat :=
 if 64 < l.length then ([], 4)
 else if l.all mayL = false then ([], 8)
 else if 256 < (joinL (l.map fun x => (textL x).1)).length then ([], 3)
 else (joinL (l.map fun x => (textL x).1), 0)
end Go.Proofs.YtbfndlfemhidaaaGreatDoor.Lex
/- Plain laws of a line's words: what is written is read back; two lines; blanks. -/
namespace Go.Proofs.YtbfndlfemhidaaaGreatDoor.Lex
set_option linter.unusedSimpArgs false
set_option linter.unusedVariables false

theorem bytes {p : UInt8 → Bool} (h : ∀ n, n < 256 → p (UInt8.ofNat n) = true) (c : UInt8) : p c = true := by
 have := h c.toNat c.toNat_lt
 rwa [UInt8.ofNat_toNat] at this
theorem start_facts (c : UInt8) (h : startC c = true) : markC c = false ∧ c ≠ 34 ∧ c ≠ 32 ∧ c ≠ 9 ∧ c ≠ 35 := by
 have := bytes (p := fun c => !startC c || (!markC c && c != 34 && c != 32 && c != 9 && c != 35)) (by decide +kernel) c
 simp [h] at this
 simp [this]
theorem digit_facts (c : UInt8) (h : digitC c = true) : markC c = false ∧ c ≠ 34 ∧ c ≠ 32 ∧ c ≠ 9 ∧ c ≠ 35 ∧ startC c = false ∧ insideC c = true ∧ c ≠ 120 ∧ hexC c = true := by
 have := bytes (p := fun c => !digitC c || (!markC c && c != 34 && c != 32 && c != 9 && c != 35 && !startC c && insideC c && c != 120 && hexC c)) (by decide +kernel) c
 simp [h] at this
 simp [this]
theorem mark_facts (c : UInt8) (h : markC c = true) : c ≠ 32 ∧ c ≠ 9 ∧ c ≠ 35 := by
 have := bytes (p := fun c => !markC c || (c != 32 && c != 9 && c != 35)) (by decide +kernel) c
 simp [h] at this
 simp [this]
theorem esc_unesc (c : UInt8) (h : unescL c ≠ 0) : escL (unescL c) = some c := by
 have := bytes (p := fun c => unescL c == 0 || escL (unescL c) == some c) (by decide +kernel) c
 simp [h] at this
 exact this
theorem unesc_esc {x y : UInt8} (h : escL x = some y) : unescL y ≠ 0 := by
 have := bytes (p := fun c => match escL c with | none => true | some y => unescL y != 0) (by decide +kernel) x
 rw [h] at this
 simpa using this
theorem unesc0 (c : UInt8) (h : unescL c = 0) : c ≠ 34 ∧ c ≠ 92 := by
 have := bytes (p := fun c => unescL c != 0 || (c != 34 && c != 92)) (by decide +kernel) c
 simp [h] at this
 exact this
theorem hexDig_facts : ∀ n, n < 16 → insideC (hexDig n) = true ∧ hexC (hexDig n) = true ∧ hexVal (hexDig n) = n := by decide +kernel
theorem decDig_facts : ∀ n, n < 10 → digitC (decDig n) = true ∧ (decDig n).toNat - 48 = n := by decide +kernel
theorem inside32 : insideC 32 = false := by decide
theorem digit32 : digitC 32 = false := by decide
theorem hex32 : hexC 32 = false := by decide

section
variable {p : UInt8 → Bool}
theorem many_le : ∀ l : List UInt8, many p l ≤ l.length
 | [] => Nat.le_refl _
 | c :: t => by
  simp only [many, List.length_cons]
  have := many_le t
  split <;> omega
theorem many_app {u : List UInt8} (h : u = [] ∨ ∃ t, u = 32 :: t) (h32 : p 32 = false) : ∀ l : List UInt8, many p (l ++ u) = many p l
 | [] => by rcases h with rfl | ⟨t, rfl⟩ <;> simp [many, h32]
 | c :: t => by simp only [List.cons_append, many, many_app h h32 t]
theorem many_all : ∀ l : List UInt8, (∀ c ∈ l, p c = true) → many p l = l.length
 | [], _ => rfl
 | c :: t, h => by
  simp only [many, List.length_cons, h c (by simp), if_true]
  rw [many_all t (fun x hx => h x (by simp [hx]))]
theorem many_take : ∀ l : List UInt8, ∀ c ∈ l.take (many p l), p c = true
 | [] => by simp
 | c :: t => by
  simp only [many]
  split
  ·
   rename_i hc
   intro x hx
   rw [List.take_succ_cons] at hx
   rcases List.mem_cons.1 hx with rfl | hx
   ·
    exact hc
   ·
    exact many_take t x hx
  ·
   simp
end

theorem quoted_plain {c : UInt8} {r : List UInt8} (hr : r ≠ []) (h1 : c ≠ 34) (h2 : c ≠ 92) (hp : plainC c = true) (i : Nat) (b : List UInt8) : quotedL (c :: r) i b = quotedL r (i + 1) (b ++ [c]) := by
 cases r with
 | nil => exact absurd rfl hr
 | cons x t => rw [quotedL, if_neg h1, if_neg h2, if_pos hp]
theorem quoted_end (u : List UInt8) (i : Nat) (b : List UInt8) : quotedL (34 :: u) i b = (b, i + 1) := by
 cases u with
 | nil => rw [quotedL, if_pos rfl]
 | cons x t => rw [quotedL, if_pos rfl]
theorem quoted_bound : ∀ (r : List UInt8) (i : Nat) (b : List UInt8), (quotedL r i b).2 ≠ 0 → i < (quotedL r i b).2 ∧ (quotedL r i b).2 ≤ i + r.length ∧ (quotedL r i b).1.length ≤ b.length + r.length
 | [], i, b => by simp [quotedL]
 | [c], i, b => by
  rw [quotedL]
  split
  ·
   intro _; simp
  ·
   intro h; exact absurd rfl h
 | c :: x :: t, i, b => by
  rw [quotedL]
  split
  ·
   intro _; simp
  ·
   split
   ·
    cases escL x with
    | none => intro h; exact absurd rfl h
    | some y =>
     intro h
     have := quoted_bound t (i + 2) (b ++ [y]) h
     simp only [List.length_cons, List.length_append, List.length_nil] at this ⊢
     exact ⟨by omega, by omega, by omega⟩
   ·
    split
    ·
     intro h
     have := quoted_bound (x :: t) (i + 1) (b ++ [c]) h
     simp only [List.length_cons, List.length_append, List.length_nil] at this ⊢
     exact ⟨by omega, by omega, by omega⟩
    ·
     intro h; exact absurd rfl h
def tellC (c : UInt8) : Prop := unescL c ≠ 0 ∨ plainC c = true
theorem quoted_tell : ∀ (r : List UInt8) (i : Nat) (b : List UInt8), (∀ c ∈ b, tellC c) → ∀ c ∈ (quotedL r i b).1, tellC c
 | [], i, b, _ => by simp [quotedL]
 | [c], i, b, h => by
  rw [quotedL]
  split
  ·
   exact h
  ·
   simp
 | c :: x :: t, i, b, h => by
  rw [quotedL]
  split
  ·
   exact h
  ·
   split
   ·
    cases hx : escL x with
    | none => simp
    | some y =>
     exact quoted_tell t (i + 2) (b ++ [y]) (fun z hz => by
      rcases List.mem_append.1 hz with hz | hz
      ·
       exact h z hz
      ·
       obtain rfl := List.mem_singleton.1 hz
       exact .inl (unesc_esc hx))
   ·
    split
    ·
     rename_i hp
     exact quoted_tell (x :: t) (i + 1) (b ++ [c]) (fun z hz => by
      rcases List.mem_append.1 hz with hz | hz
      ·
       exact h z hz
      ·
       obtain rfl := List.mem_singleton.1 hz
       exact .inr hp)
    ·
     simp
theorem shown_some : ∀ (s b : List UInt8), (∀ c ∈ s, tellC c) → ∃ z, shownL s b = some z
 | [], b, _ => ⟨_, rfl⟩
 | c :: t, b, h => by
  rw [shownL]
  have ht := fun x hx => h x (List.mem_cons_of_mem c hx)
  split
  ·
   exact shown_some t _ ht
  ·
   rename_i h0
   rcases h c (by simp) with h1 | h1
   ·
    exact absurd h1 h0
   ·
    rw [if_pos h1]
    exact shown_some t _ ht
theorem shown_back : ∀ (s b z : List UInt8), shownL s b = some z → ∃ w, z = b ++ w ∧ w ≠ [] ∧ ∀ u i acc, quotedL (w ++ u) i acc = (acc ++ s, i + w.length)
 | [], b, z, h => by
  rw [shownL] at h
  obtain rfl := Option.some.inj h
  exact ⟨[34], rfl, by simp, fun u i acc => by rw [List.append_nil]; exact quoted_end u i acc⟩
 | c :: t, b, z, h => by
  rw [shownL] at h
  split at h
  ·
   rename_i h0
   obtain ⟨w, rfl, hw, hq⟩ := shown_back t _ z h
   refine ⟨92 :: unescL c :: w, by simp, by simp, fun u i acc => ?_⟩
   show quotedL (92 :: unescL c :: (w ++ u)) i acc = _
   rw [quotedL, if_neg (by decide), if_pos rfl, esc_unesc c h0]
   show quotedL (w ++ u) (i + 2) (acc ++ [c]) = _
   rw [hq]
   simp
   omega
  ·
   rename_i h0
   split at h
   ·
    rename_i hp
    obtain ⟨w, rfl, hw, hq⟩ := shown_back t _ z h
    refine ⟨c :: w, by simp, by simp, fun u i acc => ?_⟩
    have := unesc0 c (Decidable.not_not.1 h0)
    show quotedL (c :: (w ++ u)) i acc = _
    rw [quoted_plain (by simp [hw]) this.1 this.2 hp, hq]
    simp
    omega
   ·
    cases h

theorem hexPad_len : ∀ k n, (hexPad k n).length = k
 | 0, _ => rfl
 | k + 1, n => by simp [hexPad, hexPad_len k]
theorem hexPad_all {p : UInt8 → Bool} (hp : ∀ n, n < 16 → p (hexDig n) = true) : ∀ k n, ∀ c ∈ hexPad k n, p c = true
 | 0, _ => by simp [hexPad]
 | k + 1, n => fun c hc => by
  rcases List.mem_append.1 hc with hc | hc
  ·
   exact hexPad_all hp k _ c hc
  ·
   obtain rfl := List.mem_singleton.1 hc
   exact hp _ (Nat.mod_lt _ (by decide))
theorem hexNat_snoc (l : List UInt8) (c : UInt8) : hexNat (l ++ [c]) = hexNat l * 16 + hexVal c := by simp [hexNat]
theorem decNat_snoc (l : List UInt8) (c : UInt8) : decNat (l ++ [c]) = decNat l * 10 + (c.toNat - 48) := by simp [decNat]
theorem hexPad_val : ∀ k n, hexNat (hexPad k n) = n % 16 ^ k
 | 0, n => by simp [hexPad, hexNat, Nat.mod_one]
 | k + 1, n => by
  rw [hexPad, hexNat_snoc, hexPad_val k, (hexDig_facts _ (Nat.mod_lt n (by decide))).2.2, Nat.pow_succ, Nat.mul_comm (16 ^ k) 16, Nat.mod_mul]
  omega
theorem dec_all (n : Nat) : ∀ c ∈ decL n, digitC c = true := by
 induction n using Nat.strongRecOn with
 | _ n ih =>
  rw [decL]
  split
  ·
   rename_i h
   intro c hc
   obtain rfl := List.mem_singleton.1 hc
   exact (decDig_facts n h).1
  ·
   rename_i h
   intro c hc
   rcases List.mem_append.1 hc with hc | hc
   ·
    exact ih (n / 10) (by omega) c hc
   ·
    obtain rfl := List.mem_singleton.1 hc
    exact (decDig_facts _ (Nat.mod_lt n (by decide))).1
theorem dec_val (n : Nat) : decNat (decL n) = n := by
 induction n using Nat.strongRecOn with
 | _ n ih =>
  rw [decL]
  split
  ·
   rename_i h
   have := (decDig_facts n h).2
   simp [decNat, this]
  ·
   rename_i h
   rw [decNat_snoc, ih (n / 10) (by omega), (decDig_facts _ (Nat.mod_lt n (by decide))).2]
   omega
theorem dec_ne (n : Nat) : decL n ≠ [] := by
 rw [decL]
 split <;> simp
theorem dec_len (k n : Nat) (hk : 0 < k) (h : n < 10 ^ k) : (decL n).length ≤ k := by
 induction k generalizing n with
 | zero => omega
 | succ k ih =>
  rw [decL]
  split
  ·
   simp
  ·
   rename_i h10
   rw [List.length_append, List.length_singleton]
   have h1 : n / 10 < 10 ^ k := by
    rw [Nat.div_lt_iff_lt_mul (by decide)]
    rw [Nat.pow_succ] at h
    exact h
   have : 0 < k := by
    rcases Nat.eq_zero_or_pos k with rfl | hk
    ·
     simp at h1
     omega
    ·
     exact hk
   have := ih (n / 10) this h1
   omega
theorem decNat_lt : ∀ l : List UInt8, (∀ c ∈ l, digitC c = true) → decNat l < 10 ^ l.length := by
 intro l
 induction hn : l.length generalizing l with
 | zero =>
  intro _
  obtain rfl := List.eq_nil_of_length_eq_zero hn
  simp [decNat]
 | succ k ih =>
  intro h
  obtain ⟨a, c, rfl⟩ : ∃ a c, l = a ++ [c] := by
   have hne : l ≠ [] := by intro h0; rw [h0] at hn; simp at hn
   exact ⟨l.dropLast, l.getLast hne, (List.dropLast_concat_getLast hne).symm⟩
  rw [List.length_append, List.length_singleton] at hn
  have h1 := ih a (by omega) (fun x hx => h x (List.mem_append_left _ hx))
  have hc := h c (by simp)
  have h2 : c.toNat - 48 < 10 := by
   have := bytes (p := fun c => !digitC c || decide (c.toNat - 48 < 10)) (by decide +kernel) c
   simp [hc] at this
   exact this
  rw [decNat_snoc, Nat.pow_succ]
  omega
theorem hexNat_lt : ∀ l : List UInt8, (∀ c ∈ l, hexC c = true) → hexNat l < 16 ^ l.length := by
 intro l
 induction hn : l.length generalizing l with
 | zero =>
  intro _
  obtain rfl := List.eq_nil_of_length_eq_zero hn
  simp [hexNat]
 | succ k ih =>
  intro h
  obtain ⟨a, c, rfl⟩ : ∃ a c, l = a ++ [c] := by
   have hne : l ≠ [] := by intro h0; rw [h0] at hn; simp at hn
   exact ⟨l.dropLast, l.getLast hne, (List.dropLast_concat_getLast hne).symm⟩
  rw [List.length_append, List.length_singleton] at hn
  have h1 := ih a (by omega) (fun x hx => h x (List.mem_append_left _ hx))
  have hc := h c (by simp)
  have h2 : hexVal c < 16 := by
   have := bytes (p := fun c => !hexC c || decide (hexVal c < 16)) (by decide +kernel) c
   simp [hc] at this
   exact this
  rw [hexNat_snoc, Nat.pow_succ]
  omega
theorem toI64_ofI64 {n : Int} (h0 : -9223372036854775808 ≤ n) (h1 : n < 9223372036854775808) : toI64 (ofI64 n) = n := by
 unfold toI64 ofI64
 split <;> omega
theorem ofI64_lt (n : Int) : ofI64 n < 16 ^ 16 := by
 unfold ofI64
 have : (16 : Nat) ^ 16 = 18446744073709551616 := by decide
 omega
theorem toI64_range {n : Nat} (h : n < 18446744073709551616) : -9223372036854775808 ≤ toI64 n ∧ toI64 n < 9223372036854775808 := by
 unfold toI64
 split <;> omega
def numOk (x : Tok) : Prop := -9223372036854775808 ≤ x.n ∧ x.n < 9223372036854775808
theorem num_range (l : List UInt8) : -9223372036854775808 ≤ (numL l).1 ∧ (numL l).1 < 9223372036854775808 := by
 unfold numL
 split
 ·
  split
  ·
   simp
  ·
   rename_i h
   have h1 := hexNat_lt ((l.drop 2).take (many hexC (l.drop 2))) (many_take _)
   have h2 : ((l.drop 2).take (many hexC (l.drop 2))).length ≤ 16 := by
    rw [List.length_take]
    omega
   exact toI64_range (Nat.lt_of_lt_of_le h1 (Nat.le_trans (Nat.pow_le_pow_right (by decide) h2) (by decide)))
 ·
  split
  ·
   simp
  ·
   rename_i h
   have h1 := decNat_lt (l.take (many digitC l)) (many_take _)
   have h2 : (l.take (many digitC l)).length ≤ 18 := by
    rw [List.length_take]
    omega
   have h3 := Nat.lt_of_lt_of_le h1 (Nat.le_trans (Nat.pow_le_pow_right (by decide) h2) (show (10 : Nat) ^ 18 ≤ 9223372036854775807 by decide))
   show -9223372036854775808 ≤ ((decNat (l.take (many digitC l)) : Nat) : Int) ∧ ((decNat (l.take (many digitC l)) : Nat) : Int) < 9223372036854775808
   omega
theorem num_le (l : List UInt8) : (numL l).2 ≤ l.length := by
 unfold numL
 split
 ·
  rename_i h
  split
  ·
   simp
  ·
   have := many_le (p := hexC) (l.drop 2)
   rw [List.length_drop] at this
   show many hexC (l.drop 2) + 2 ≤ l.length
   omega
 ·
  split
  ·
   simp
  ·
   exact many_le l
end Go.Proofs.YtbfndlfemhidaaaGreatDoor.Lex
/- Plain laws of a line's words: the token with which a line goes on hangs on its own bytes alone; tokens that may be are read back; what is read may be. -/
namespace Go.Proofs.YtbfndlfemhidaaaGreatDoor.Lex
set_option linter.unusedSimpArgs false
set_option linter.unusedVariables false

def Ends (u : List UInt8) : Prop := u = [] ∨ ∃ t, u = 32 :: t
theorem next_le (l : List UInt8) : (nextL l).2 ≤ l.length := by
 unfold nextL
 cases l with
 | nil => simp [noTok]
 | cons c r =>
  show (if markC c then _ else _ : Tok × Nat).2 ≤ _
  split
  ·
   simp
  ·
   split
   ·
    split
    ·
     simp [noTok]
    ·
     rename_i h
     have := quoted_bound r 0 [] h
     show (quotedL r 0 []).2 + 1 ≤ _
     simp only [List.length_cons]
     omega
   ·
    split
    ·
     split
     ·
      have := many_le (p := insideC) r
      show 1 + many insideC r ≤ _
      simp only [List.length_cons]
      omega
     ·
      simp [noTok]
    ·
     split
     ·
      exact many_le _
     ·
      split
      ·
       simp [noTok]
      ·
       exact many_le _
theorem toks_fuel : ∀ (k k' : Nat) (l : List UInt8) (out : List Tok), l.length ≤ k → l.length ≤ k' → toksL k l out = toksL k' l out
 | 0, k', l, out, h, _ => by
  obtain rfl := List.eq_nil_of_length_eq_zero (Nat.le_zero.1 h)
  cases k' <;> rfl
 | k + 1, 0, l, out, _, h => by
  obtain rfl := List.eq_nil_of_length_eq_zero (Nat.le_zero.1 h)
  rfl
 | k + 1, k' + 1, [], out, _, _ => rfl
 | k + 1, k' + 1, c :: r, out, h, h' => by
  simp only [List.length_cons] at h h'
  rw [toksL, toksL]
  split
  ·
   exact toks_fuel k k' r out (by omega) (by omega)
  ·
   split
   ·
    rfl
   ·
    split
    ·
     rfl
    ·
     rename_i h0
     split
     ·
      rfl
     ·
      have := List.length_drop (i := (nextL (c :: r)).2) (l := c :: r)
      simp only [List.length_cons] at this
      exact toks_fuel k k' _ _ (by omega) (by omega)
theorem nameL_cons {l : List UInt8} (h : nameL l = true) : ∃ c t, l = c :: t ∧ t.length < 32 ∧ startC c = true ∧ many insideC t = t.length := by
 cases l with
 | nil => cases h
 | cons c t =>
  simp only [nameL, Bool.and_eq_true, decide_eq_true_eq] at h
  exact ⟨c, t, rfl, h.1.1, h.1.2, h.2⟩
theorem local_facts {l : List UInt8} (h : localL l = true) : 1 ≤ many digitC l ∧ many digitC l ≤ 9 ∧ l.length = many digitC l + 1 ∧ insideC (l.getD (many digitC l) 0) = true ∧ many insideC l = l.length := by
 simp only [localL, Bool.and_eq_true, decide_eq_true_eq, Bool.or_eq_true, beq_iff_eq] at h
 obtain ⟨⟨⟨h1, h2⟩, h3⟩, h4⟩ := h
 have h5 : insideC (l.getD (many digitC l) 0) = true := by
  rcases h4 with h4 | h4 <;> (rw [h4]; decide)
 refine ⟨h1, h2, h3, h5, many_all _ fun c hc => ?_⟩
 have e : l = l.take (many digitC l) ++ [l.getD (many digitC l) 0] := by
  have e1 : l.drop (many digitC l) = [l.getD (many digitC l) 0] := by
   rw [List.drop_eq_getElem_cons (by omega), List.drop_eq_nil_of_le (by omega)]
   simp [List.getD, List.getElem?_eq_getElem (show many digitC l < l.length by omega)]
  conv => lhs; rw [← List.take_append_drop (many digitC l) l, e1]
 rw [e] at hc
 rcases List.mem_append.1 hc with hc | hc
 ·
  exact (digit_facts c (many_take l c hc)).2.2.2.2.2.2.1
 ·
  obtain rfl := List.mem_singleton.1 hc
  exact h5
theorem text_dec {x : Tok} (h1 : x.k = 2) (h2 : 0 ≤ x.n ∧ x.n < 1000000000000000000) : textL x = (decL x.n.toNat, decide (x.t = [])) := by
 unfold textL
 rw [if_neg (by omega), if_neg (by omega), if_neg (by omega), if_pos h1, if_pos h2]
theorem text_hex {x : Tok} (h1 : x.k = 2) (h2 : ¬ (0 ≤ x.n ∧ x.n < 1000000000000000000)) : textL x = ([48, 120] ++ hexPad 16 (ofI64 x.n), decide (x.t = [])) := by
 unfold textL
 rw [if_neg (by omega), if_neg (by omega), if_neg (by omega), if_pos h1, if_neg h2]
theorem next_text {x : Tok} (hm : mayL x = true) (hn : numOk x) {u : List UInt8} (hu : Ends u) :
  nextL ((textL x).1 ++ u) = (x, (textL x).1.length) ∧ ∃ c r, (textL x).1 = c :: r ∧ c ≠ 32 ∧ c ≠ 9 ∧ c ≠ 35 := by
 obtain ⟨k, t, n⟩ := x
 unfold mayL at hm
 by_cases k1 : k = 1
 ·
  subst k1
  simp only [textL, if_pos, Bool.and_eq_true, decide_eq_true_eq, Bool.or_eq_true] at hm ⊢
  obtain ⟨rfl, hm⟩ := hm
  by_cases hN : nameL t = true
  ·
   obtain ⟨c, r, rfl, h1, h2, h3⟩ := nameL_cons hN
   obtain ⟨f1, f2, f3, f4, f5⟩ := start_facts c h2
   refine ⟨?_, c, r, rfl, f3, f4, f5⟩
   have e1 : many insideC (r ++ u) = r.length := by rw [many_app hu inside32, h3]
   have e3 : (c :: (r ++ u)).take (1 + r.length) = c :: r := by
    rw [show c :: (r ++ u) = (c :: r) ++ u from rfl, List.take_left' (by simp; omega)]
   rw [List.cons_append]
   unfold nextL
   simp only []
   rw [if_neg (by simp [f1]), if_neg f2, if_pos h2, e1, e3, if_pos hN, Nat.add_comm]
   rfl
  ·
   have hL : localL t = true := hm.resolve_left hN
   obtain ⟨h1, h2, h3, h4, h5⟩ := local_facts hL
   obtain ⟨c, r, rfl⟩ : ∃ c r, t = c :: r := by
    cases t with
    | nil => simp at h3
    | cons c r => exact ⟨c, r, rfl⟩
   have hd : digitC c = true := by
    simp only [many] at h1
    split at h1
    ·
     assumption
    ·
     omega
   obtain ⟨f1, f2, f3, f4, f5, f6, f7, f8, f9⟩ := digit_facts c hd
   refine ⟨?_, c, r, rfl, f3, f4, f5⟩
   have e2 : many insideC (c :: (r ++ u)) = (c :: r).length := by
    rw [show c :: (r ++ u) = (c :: r) ++ u from rfl, many_app hu inside32, h5]
   have e3 : (c :: (r ++ u)).take (c :: r).length = c :: r := by
    rw [show c :: (r ++ u) = (c :: r) ++ u from rfl, List.take_left]
   rw [List.cons_append]
   unfold nextL
   simp only []
   rw [if_neg (by simp [f1]), if_neg f2, if_neg (by simp [f6]), e2, e3, if_pos hL]
 by_cases k4 : k = 4
 ·
  subst k4
  have e : textL ⟨4, t, n⟩ = (t, decide (n = 0) && decide (t.length = 1) && markC (t.getD 0 0)) := rfl
  rw [e] at hm ⊢
  simp only [Bool.and_eq_true, decide_eq_true_eq] at hm ⊢
  obtain ⟨⟨rfl, h1⟩, h2⟩ := hm
  obtain ⟨c, rfl⟩ : ∃ c, t = [c] := List.length_eq_one_iff.1 h1
  have h3 : markC c = true := by simpa using h2
  refine ⟨?_, c, [], rfl, mark_facts c h3⟩
  show nextL (c :: u) = _
  unfold nextL
  simp only []
  rw [if_pos h3]
  rfl
 by_cases k3 : k = 3
 ·
  subst k3
  cases hs : shownL t [34] with
  | none =>
   have e : textL ⟨3, t, n⟩ = ([], false) := by unfold textL; simp [hs]
   rw [e] at hm
   cases hm
  | some z =>
   have e : textL ⟨3, t, n⟩ = (z, decide (n = 0) && decide (t.length ≤ 256)) := by unfold textL; simp [hs]
   rw [e] at hm ⊢
   simp only [Bool.and_eq_true, decide_eq_true_eq] at hm ⊢
   obtain ⟨rfl, h1⟩ := hm
   obtain ⟨w, rfl, hw, hq⟩ := shown_back t [34] z hs
   refine ⟨?_, 34, w, rfl, by decide, by decide, by decide⟩
   have hq := hq u 0 []
   show nextL (34 :: (w ++ u)) = _
   have hw0 : w.length ≠ 0 := by simpa using hw
   unfold nextL
   simp only []
   rw [if_neg (by decide), if_pos (by trivial), hq, if_neg (by simpa using hw)]
   simp
 by_cases k2 : k = 2
 ·
  subst k2
  by_cases h2 : 0 ≤ n ∧ n < 1000000000000000000
  ·
   rw [text_dec rfl h2] at hm ⊢
   simp only [decide_eq_true_eq] at hm ⊢
   subst hm
   obtain ⟨m, rfl⟩ := Int.eq_ofNat_of_zero_le h2.1
   simp only [Int.toNat_natCast]
   have hall := dec_all m
   have hval := dec_val m
   have hlen : (decL m).length ≤ 18 := dec_len 18 m (by decide) (by omega)
   obtain ⟨c, r, he⟩ : ∃ c r, decL m = c :: r := by
    cases h : decL m with
    | nil => exact absurd h (dec_ne m)
    | cons c r => exact ⟨c, r, rfl⟩
   rw [he] at hall hval hlen ⊢
   obtain ⟨f1, f2, f3, f4, f5, f6, f7, f8, f9⟩ := digit_facts c (hall c (by simp))
   refine ⟨?_, c, r, rfl, f3, f4, f5⟩
   have e1 : many digitC (c :: (r ++ u)) = (c :: r).length := by
    rw [show c :: (r ++ u) = (c :: r) ++ u from rfl, many_app hu digit32, many_all _ hall]
   have e1' : many digitC (c :: r) = (c :: r).length := many_all _ hall
   have e2 : many insideC (c :: (r ++ u)) = (c :: r).length := by
    rw [show c :: (r ++ u) = (c :: r) ++ u from rfl, many_app hu inside32, many_all _ (fun x hx => (digit_facts x (hall x hx)).2.2.2.2.2.2.1)]
   have e3 : (c :: (r ++ u)).take (c :: r).length = c :: r := by
    rw [show c :: (r ++ u) = (c :: r) ++ u from rfl, List.take_left]
   have hL : localL (c :: r) = false := by
    unfold localL
    rw [e1']
    simp
   have hx : ¬ (2 < (c :: (r ++ u)).length ∧ (c :: (r ++ u)).take 2 = [48, 120]) := by
    rintro ⟨g1, g2⟩
    cases r with
    | nil =>
     rcases hu with rfl | ⟨t, rfl⟩
     ·
      simp at g1
     ·
      simp at g2
    | cons d r =>
     have : d = 120 := by
      simp at g2
      exact g2.2
     exact (digit_facts d (hall d (by simp))).2.2.2.2.2.2.2.1 this
   have hN : numL (c :: (r ++ u)) = ((m : Int), (c :: r).length) := by
    unfold numL
    rw [if_neg hx, e1, if_neg (by simp only [List.length_cons] at hlen ⊢; omega), e3, hval]
   rw [List.cons_append]
   unfold nextL
   simp only []
   rw [if_neg (by simp [f1]), if_neg f2, if_neg (by simp [f6]), e2, e3, if_neg (by simp [hL]), hN, if_neg (by simp)]
  ·
   rw [text_hex rfl h2] at hm ⊢
   simp only [decide_eq_true_eq] at hm ⊢
   subst hm
   have hv := hexPad_val 16 (ofI64 n)
   rw [Nat.mod_eq_of_lt (ofI64_lt n)] at hv
   have hl := hexPad_len 16 (ofI64 n)
   have hi : ∀ c ∈ hexPad 16 (ofI64 n), insideC c = true := hexPad_all (fun m hm => (hexDig_facts m hm).1) _ _
   have hh : ∀ c ∈ hexPad 16 (ofI64 n), hexC c = true := hexPad_all (fun m hm => (hexDig_facts m hm).2.1) _ _
   generalize hexPad 16 (ofI64 n) = w at hv hl hi hh
   refine ⟨?_, 48, 120 :: w, rfl, by decide, by decide, by decide⟩
   have hia : ∀ c ∈ (48 :: 120 :: w : List UInt8), insideC c = true := by
    intro c hc
    rcases List.mem_cons.1 hc with rfl | hc
    ·
     decide
    ·
     rcases List.mem_cons.1 hc with rfl | hc
     ·
      decide
     ·
      exact hi c hc
   have e2 : many insideC (48 :: 120 :: (w ++ u)) = 18 := by
    rw [show 48 :: 120 :: (w ++ u) = (48 :: 120 :: w) ++ u from rfl, many_app hu inside32, many_all _ hia]
    simp [hl]
   have e3 : (48 :: 120 :: (w ++ u)).take 18 = 48 :: 120 :: w := by
    rw [show 48 :: 120 :: (w ++ u) = (48 :: 120 :: w) ++ u from rfl, List.take_left' (by simp [hl])]
   have e5 : many hexC (w ++ u) = 16 := by rw [many_app hu hex32, many_all _ hh, hl]
   have hL : localL (48 :: 120 :: w) = false := by
    have : many digitC (48 :: 120 :: w) = 1 := rfl
    unfold localL
    rw [this]
    simp [hl]
   have hN : numL (48 :: 120 :: (w ++ u)) = (n, 18) := by
    unfold numL
    rw [if_pos ⟨by simp; omega, rfl⟩]
    show (if many hexC (w ++ u) = 0 ∨ 16 < many hexC (w ++ u) then _ else (toI64 (hexNat ((w ++ u).take (many hexC (w ++ u)))), many hexC (w ++ u) + 2)) = _
    rw [e5, if_neg (by decide), List.take_left' hl, hv, toI64_ofI64 hn.1 hn.2]
   show nextL (48 :: 120 :: (w ++ u)) = (_, ([48, 120] ++ w).length)
   have hlen : ([48, 120] ++ w).length = 18 := by simp [hl]
   unfold nextL
   simp only []
   rw [if_neg (by decide), if_neg (by decide), if_neg (by decide), e2, e3, if_neg (by simp [hL]), hN, if_neg (by simp), hlen]
 ·
  have e : textL ⟨k, t, n⟩ = ([], false) := by unfold textL; simp [k1, k2, k3, k4]
  rw [e] at hm
  cases hm
theorem next_may {l : List UInt8} (hl : l.length ≤ 256) (h : (nextL l).2 ≠ 0) : mayL (nextL l).1 = true ∧ numOk (nextL l).1 := by
 cases l with
 | nil => exact absurd rfl h
 | cons c r =>
  unfold nextL at h ⊢
  simp only [] at h ⊢
  by_cases h1 : markC c
  ·
   rw [if_pos h1]
   refine ⟨?_, by simp [numOk]⟩
   simp [mayL, textL, h1]
  rw [if_neg h1] at h ⊢
  by_cases h2 : c = 34
  ·
   rw [if_pos h2] at h ⊢
   by_cases h3 : (quotedL r 0 []).2 = 0
   ·
    rw [if_pos h3] at h
    exact absurd rfl h
   rw [if_neg h3] at h ⊢
   refine ⟨?_, by simp [numOk]⟩
   have hb := quoted_bound r 0 [] h3
   have ht := quoted_tell r 0 [] (by simp)
   obtain ⟨z, hz⟩ := shown_some (quotedL r 0 []).1 [34] ht
   simp only [List.length_cons, List.length_nil] at hl hb
   simp only [mayL, textL]
   rw [if_neg (by decide), if_neg (by decide), if_pos (by trivial), hz]
   simp
   omega
  rw [if_neg h2] at h ⊢
  by_cases h3 : startC c
  ·
   rw [if_pos h3] at h ⊢
   by_cases h4 : nameL ((c :: r).take (1 + many insideC r))
   ·
    rw [if_pos h4]
    exact ⟨by simp [mayL, textL, h4], by simp [numOk]⟩
   ·
    rw [if_neg h4] at h
    exact absurd rfl h
  rw [if_neg h3] at h ⊢
  by_cases h4 : localL ((c :: r).take (many insideC (c :: r)))
  ·
   rw [if_pos h4]
   exact ⟨by simp [mayL, textL, h4], by simp [numOk]⟩
  rw [if_neg h4] at h ⊢
  by_cases h5 : (numL (c :: r)).2 = 0 ∨ (numL (c :: r)).2 ≠ many insideC (c :: r)
  ·
   rw [if_pos h5] at h
   exact absurd rfl h
  ·
   rw [if_neg h5]
   refine ⟨?_, num_range _⟩
   simp only [mayL, textL]
   rw [if_neg (by decide), if_neg (by decide), if_neg (by decide), if_pos (by trivial)]
   split <;> simp
theorem toks_may : ∀ (k : Nat) (l : List UInt8) (out x : List Tok), l.length ≤ 256 → (∀ t ∈ out, mayL t = true ∧ numOk t) → out.length ≤ 64 → toksL k l out = (x, 0) → (∀ t ∈ x, mayL t = true ∧ numOk t) ∧ x.length ≤ 64
 | 0, l, out, x, _, ho, hn, h => by
  rw [toksL] at h
  rw [← (Prod.mk.inj h).1]
  exact ⟨ho, hn⟩
 | k + 1, [], out, x, _, ho, hn, h => by
  rw [toksL] at h
  rw [← (Prod.mk.inj h).1]
  exact ⟨ho, hn⟩
 | k + 1, c :: r, out, x, hl, ho, hn, h => by
  rw [toksL] at h
  split at h
  ·
   exact toks_may k r out x (by simp at hl; omega) ho hn h
  ·
   split at h
   ·
    rw [← (Prod.mk.inj h).1]
    exact ⟨ho, hn⟩
   ·
    split at h
    ·
     exact absurd (Prod.mk.inj h).2 (by decide)
    ·
     rename_i h3
     split at h
     ·
      exact absurd (Prod.mk.inj h).2 (by decide)
     ·
      rename_i h4
      refine toks_may k _ _ x (by rw [List.length_drop]; omega) (fun t ht => ?_) (by rw [List.length_append, List.length_singleton]; omega) h
      rcases List.mem_append.1 ht with ht | ht
      ·
       exact ho t ht
      ·
       obtain rfl := List.mem_singleton.1 ht
       exact next_may hl h3
theorem toks_join : ∀ (l out : List Tok), out.length + l.length ≤ 64 → (∀ t ∈ l, mayL t = true ∧ numOk t) → ∀ K, (joinL (l.map fun x => (textL x).1)).length ≤ K → toksL K (joinL (l.map fun x => (textL x).1)) out = (out ++ l, 0)
 | [], out, _, _, K, _ => by
  show toksL K [] out = _
  cases K <;> simp [toksL]
 | [x], out, hn, hm, K, hK => by
  obtain ⟨hx, c, r, hc, n1, n2, n3⟩ := next_text (u := []) (hm x (by simp)).1 (hm x (by simp)).2 (.inl rfl)
  rw [List.append_nil] at hx
  show toksL K (textL x).1 out = _
  change (textL x).1.length ≤ K at hK
  rw [hc] at hK hx ⊢
  simp only [List.length_cons] at hK hn
  obtain ⟨K, rfl⟩ : ∃ m, K = m + 1 := ⟨K - 1, by omega⟩
  rw [toksL, if_neg (by simp [n1, n2]), if_neg n3, hx, if_neg (by simp), if_neg (by simp at hn; omega)]
  show toksL K ((c :: r).drop (c :: r).length) _ = _
  rw [List.drop_length]
  cases K <;> simp [toksL]
 | x :: y :: l, out, hn, hm, K, hK => by
  obtain ⟨hx, c, r, hc, n1, n2, n3⟩ := next_text (u := 32 :: joinL ((y :: l).map fun x => (textL x).1)) (hm x (by simp)).1 (hm x (by simp)).2 (.inr ⟨_, rfl⟩)
  have e : joinL ((x :: y :: l).map fun x => (textL x).1) = (textL x).1 ++ 32 :: joinL ((y :: l).map fun x => (textL x).1) := rfl
  rw [e] at hK ⊢
  have ih := toks_join (y :: l) (out ++ [x]) (by simp only [List.length_append, List.length_cons, List.length_nil] at hn ⊢; omega) (fun t ht => hm t (by simp [List.mem_cons.1 ht]))
  generalize joinL ((y :: l).map fun x => (textL x).1) = J at hK hx ih ⊢
  rw [hc] at hK hx ⊢
  simp only [List.length_append, List.length_cons, List.cons_append] at hK hn hx ⊢
  obtain ⟨K, rfl⟩ : ∃ m, K = m + 1 := ⟨K - 1, by omega⟩
  rw [toksL, if_neg (by simp [n1, n2]), if_neg n3, hx, if_neg (by simp), if_neg (by omega)]
  show toksL K ((c :: (r ++ 32 :: J)).drop (r.length + 1)) _ = _
  rw [List.drop_succ_cons, List.drop_left]
  obtain ⟨K, rfl⟩ : ∃ m, K = m + 1 := ⟨K - 1, by omega⟩
  rw [toksL, if_pos (.inl rfl), ih K (by omega)]
  simp
theorem tokens_write {l : List Tok} {s : List UInt8} (h : writeL l = (s, 0)) (hn : ∀ t ∈ l, numOk t) : tokensL s = (l, 0) := by
 unfold writeL at h
 split at h
 ·
  exact absurd (Prod.mk.inj h).2 (by decide)
 ·
  rename_i h1
  split at h
  ·
   exact absurd (Prod.mk.inj h).2 (by decide)
  ·
   rename_i h2
   split at h
   ·
    exact absurd (Prod.mk.inj h).2 (by decide)
   ·
    rename_i h3
    rw [← (Prod.mk.inj h).1]
    unfold tokensL
    rw [if_neg h3, toks_join l [] (by simp; omega) (fun t ht => ⟨?_, hn t ht⟩) _ (Nat.le_refl _)]
    ·
     simp
    ·
     exact List.all_eq_true.1 (by simpa using h2) t ht
theorem write_err {l : List Tok} (h : (writeL l).2 ≠ 0) : (writeL l).1 = [] := by
 unfold writeL at h ⊢
 split
 ·
  rfl
 ·
  split
  ·
   rfl
  ·
   split
   ·
    rfl
   ·
    rename_i h1 h2 h3
    rw [if_neg h1, if_neg h2, if_neg h3] at h
    exact absurd rfl h
theorem tokens_may {s : List UInt8} {l : List Tok} (h : tokensL s = (l, 0)) : (∀ t ∈ l, mayL t = true ∧ numOk t) ∧ l.length ≤ 64 := by
  unfold tokensL at h
  split at h
  · exact absurd (Prod.mk.inj h).2 (by decide)
  · exact toks_may _ s [] l (by omega) (by simp) (by simp) h
end Go.Proofs.YtbfndlfemhidaaaGreatDoor.Lex
/- What expressions are, and how words of a line tell them, on lists: plain Lean, no program in sight. -/
namespace Go.Proofs.YtbfndlfemhidaaaGreatDoor.Ex
open Go.Proofs.YtbfndlfemhidaaaGreatDoor.Lex
set_option linter.unusedSimpArgs false
set_option linter.unusedVariables false
structure X where
 s : List UInt8
 l : List UInt8
 n : Int
 m : Nat
deriving DecidableEq, Inhabited
def x0 : X := ⟨[], [], 0, 0⟩
def w64 (n : Int) : Int := (n + 9223372036854775808) % 18446744073709551616 - 9223372036854775808
def wordL (s : List UInt8) : Bool := (nameL s || localL s) && !(s.getD 0 0 == 37)
def mk (c : UInt8) : Tok := ⟨4, [c], 0⟩
def termT (t : Tok) (x : X) (minus : Bool) : Option X :=
  if t.k = 2 then some { x with n := w64 (x.n + if minus then w64 (-t.n) else t.n) }
  else if t.k = 1 then
    (if minus then (if x.l ≠ [] then none else if wordL t.t then some { x with l := t.t } else none)
     else if x.s ≠ [] then none else if wordL t.t then some { x with s := t.t } else none)
  else none
def startsT (t : Tok) : Bool := decide (t.k = 2) || (decide (t.k = 1) && wordL t.t)
def loopR : List Tok → X → Option (List Tok × X)
  | t :: u :: r, x =>
    if startsT u then
      (if t = mk 43 then (match termT u x false with | none => none | some y => loopR r y)
       else if t = mk 45 then (match termT u x true with | none => none | some y => loopR r y)
       else some (t :: u :: r, x))
    else some (t :: u :: r, x)
  | r, x => some (r, x)
def first (r : List Tok) (c : UInt8) : Bool := match r with | [] => false | t :: _ => decide (t = mk c)
def tailOf (r : List Tok) : List Tok := if first r 45 || first r 43 then r.tail else r
def sumR (r : List Tok) (x : X) : Option (List Tok × X) := match tailOf r with
 | [] => none
 | t :: r2 => match termT t x (first r 45) with
  | none => none
  | some y => match loopR r2 y with
   | none => none
   | some (r3, z) => if z.s ≠ [] ∨ z.l = [] then some (r3, z) else none
def modName : Nat → List UInt8
 | 1 => [37, 104, 105]
 | 2 => [37, 108, 111]
 | 3 => [37, 112, 99, 114, 101, 108, 95, 104, 105]
 | 4 => [37, 112, 99, 114, 101, 108, 95, 108, 111]
 | _ => []
def modL (s : List UInt8) : Nat := if s = modName 1 then 1 else if s = modName 2 then 2 else if s = modName 3 then 3 else if s = modName 4 then 4 else 0
def parseR (r : List Tok) : Option (List Tok × X) := match r with
 | [] => sumR [] x0
 | t :: r1 =>
  if t.k = 1 ∧ t.t.getD 0 0 = 37 then
   (if modL t.t = 0 then none else match r1 with
    | [] => none
    | u :: r2 => if u = mk 40 then (match sumR r2 { x0 with m := modL t.t } with
     | some (v :: r4, y) => if v = mk 41 then some (r4, y) else none
     | _ => none) else none)
  else sumR (t :: r1) x0
def parseL (l : List Tok) (a : Int) : X × Nat × Nat :=
 if l.all mayL = false then (x0, 0, 8)
 else if a < 0 ∨ (l.length : Int) < a then (x0, 0, 2)
 else match parseR (l.drop a.toNat) with
  | none => (x0, 0, 160)
  | some (r, y) => (y, l.length - r.length, 0)
def checkL (x : X) : Bool := (decide (x.s = []) || wordL x.s) && (decide (x.l = []) || (decide (x.s ≠ []) && wordL x.l)) && decide (x.m ≤ 4)
def toksX (x : X) : List Tok :=
 (if 0 < x.m then [⟨1, modName x.m, 0⟩, mk 40] else []) ++ (if x.s ≠ [] then [⟨1, x.s, 0⟩] else []) ++ (if x.l ≠ [] then [mk 45, ⟨1, x.l, 0⟩] else [])
 ++ (if x.n ≠ 0 ∨ x.s = [] then (if x.s ≠ [] then [mk 43] else []) ++ [⟨2, [], x.n⟩] else []) ++ (if 0 < x.m then [mk 41] else [])
def numX (x : X) : Prop := -9223372036854775808 ≤ x.n ∧ x.n < 9223372036854775808
theorem w64_id {n : Int} (h : -9223372036854775808 ≤ n ∧ n < 9223372036854775808) : w64 n = n := by unfold w64; omega
theorem w64_range (n : Int) : -9223372036854775808 ≤ w64 n ∧ w64 n < 9223372036854775808 := by unfold w64; omega
def Good (u : List Tok) : Prop := first u 43 = false ∧ first u 45 = false
theorem loop_good {u : List Tok} (h : Good u) (x : X) : loopR u x = some (u, x) := by
 match u, h with
 | [], _ => rfl
 | [t], _ => rfl
 | t :: v :: r, h =>
  have h1 : ¬ t = mk 43 := by simpa [first] using h.1
  have h2 : ¬ t = mk 45 := by simpa [first] using h.2
  simp only [loopR]
  rw [if_neg h1, if_neg h2]
  split <;> rfl
structure Fine (x : X) : Prop where
 s : x.s = [] ∨ wordL x.s = true
 l : x.l = [] ∨ wordL x.l = true
 n : numX x
theorem term_fine {t : Tok} {x y : X} {b : Bool} (hx : Fine x) (h : termT t x b = some y) : Fine y ∧ y.m = x.m := by
 unfold termT at h
 split at h
 ·
  cases h
  exact ⟨⟨hx.s, hx.l, w64_range _⟩, rfl⟩
 split at h
 ·
  split at h
  ·
   split at h
   ·
    cases h
   ·
    split at h
    ·
     rename_i hw
     cases h
     exact ⟨⟨hx.s, .inr hw, hx.n⟩, rfl⟩
    ·
     cases h
  ·
   split at h
   ·
    cases h
   ·
    split at h
    ·
     rename_i hw
     cases h
     exact ⟨⟨.inr hw, hx.l, hx.n⟩, rfl⟩
    ·
     cases h
 ·
  cases h
theorem loop_law : ∀ (r : List Tok) (x : X) (r3 : List Tok) (y : X), Fine x → loopR r x = some (r3, y) →
  Fine y ∧ y.m = x.m ∧ ∃ used, r = used ++ r3 ∧ ∀ u, Good u → loopR (used ++ u) x = some (u, y)
 | [], x, r3, y, hx, h => by
  cases h
  exact ⟨hx, rfl, [], rfl, fun u hu => loop_good hu x⟩
 | [t], x, r3, y, hx, h => by
  cases h
  exact ⟨hx, rfl, [], rfl, fun u hu => loop_good hu x⟩
 | t :: v :: r, x, r3, y, hx, h => by
  simp only [loopR] at h
  by_cases hs : startsT v = true
  ·
   rw [if_pos hs] at h
   by_cases h1 : t = mk 43
   ·
    rw [if_pos h1] at h
    cases ht : termT v x false with
    | none => rw [ht] at h; cases h
    | some z =>
     rw [ht] at h
     obtain ⟨f, m⟩ := term_fine hx ht
     obtain ⟨g, m2, used, e, hu⟩ := loop_law r z r3 y f h
     refine ⟨g, m2.trans m, t :: v :: used, by rw [e]; rfl, fun u hg => ?_⟩
     simp only [List.cons_append, loopR]
     rw [if_pos hs, if_pos h1, ht]
     exact hu u hg
   ·
    rw [if_neg h1] at h
    by_cases h2 : t = mk 45
    ·
     rw [if_pos h2] at h
     cases ht : termT v x true with
     | none => rw [ht] at h; cases h
     | some z =>
      rw [ht] at h
      obtain ⟨f, m⟩ := term_fine hx ht
      obtain ⟨g, m2, used, e, hu⟩ := loop_law r z r3 y f h
      refine ⟨g, m2.trans m, t :: v :: used, by rw [e]; rfl, fun u hg => ?_⟩
      simp only [List.cons_append, loopR]
      rw [if_pos hs, if_neg h1, if_pos h2, ht]
      exact hu u hg
    ·
     rw [if_neg h2] at h
     cases h
     exact ⟨hx, rfl, [], rfl, fun u hu => loop_good hu x⟩
  ·
   rw [if_neg hs] at h
   cases h
   exact ⟨hx, rfl, [], rfl, fun u hu => loop_good hu x⟩
theorem sum_law {r r3 : List Tok} {x y : X} (hx : Fine x) (h : sumR r x = some (r3, y)) :
  Fine y ∧ y.m = x.m ∧ (y.s ≠ [] ∨ y.l = []) ∧ ∃ used, used ≠ [] ∧ r = used ++ r3 ∧ ∀ u, Good u → sumR (used ++ u) x = some (u, y) := by
 cases r with
 | nil => simp [sumR, tailOf, first] at h
 | cons t r =>
  unfold sumR at h
  have key : ∀ (a : Tok) (q : List Tok), (match termT a x (first (t :: r) 45) with
    | none => none
    | some y => match loopR q y with
     | none => none
     | some (r3, z) => if z.s ≠ [] ∨ z.l = [] then some (r3, z) else none) = some (r3, y) →
    Fine y ∧ y.m = x.m ∧ (y.s ≠ [] ∨ y.l = []) ∧ ∃ used, q = used ++ r3 ∧ ∀ u, Good u → (match termT a x (first (t :: r) 45) with
     | none => none
     | some y => match loopR (used ++ u) y with
      | none => none
      | some (r3, z) => if z.s ≠ [] ∨ z.l = [] then some (r3, z) else none) = some (u, y) := by
   intro a q h
   cases ht : termT a x (first (t :: r) 45) with
   | none => rw [ht] at h; cases h
   | some z =>
    rw [ht] at h
    simp only at h
    cases hl : loopR q z with
    | none => rw [hl] at h; cases h
    | some p =>
     obtain ⟨r4, v⟩ := p
     rw [hl] at h
     simp only at h
     by_cases hc : v.s ≠ [] ∨ v.l = []
     ·
      rw [if_pos hc] at h
      cases h
      obtain ⟨f, m⟩ := term_fine hx ht
      obtain ⟨g, m2, used, e, hu⟩ := loop_law q z r3 y f hl
      refine ⟨g, m2.trans m, hc, used, e, fun u hg => ?_⟩
      simp only
      rw [hu u hg]
      simp only
      rw [if_pos hc]
     ·
      rw [if_neg hc] at h
      cases h
  by_cases hs : (first (t :: r) 45 || first (t :: r) 43) = true
  ·
   have e1 : tailOf (t :: r) = r := if_pos hs
   rw [e1] at h
   cases r with
   | nil => cases h
   | cons a q =>
    obtain ⟨f, m, c, used, e, hu⟩ := key a q h
    refine ⟨f, m, c, t :: a :: used, by simp, by rw [e]; rfl, fun u hg => ?_⟩
    unfold sumR
    have e2 : tailOf ((t :: a :: used) ++ u) = a :: (used ++ u) := if_pos hs
    rw [e2]
    exact hu u hg
  ·
   have e1 : tailOf (t :: r) = t :: r := if_neg hs
   rw [e1] at h
   obtain ⟨f, m, c, used, e, hu⟩ := key t r h
   refine ⟨f, m, c, t :: used, by simp, by rw [e]; rfl, fun u hg => ?_⟩
   unfold sumR
   have e2 : tailOf ((t :: used) ++ u) = t :: (used ++ u) := if_neg hs
   rw [e2]
   exact hu u hg
theorem mod_le (s : List UInt8) : modL s ≤ 4 := by unfold modL; repeat' split <;> try omega
theorem fine0 (m : Nat) : Fine { x0 with m := m } := ⟨.inl rfl, .inl rfl, by show -9223372036854775808 ≤ (0 : Int) ∧ (0 : Int) < 9223372036854775808; omega⟩
theorem check_of {y : X} (f : Fine y) (c : y.s ≠ [] ∨ y.l = []) (hm : y.m ≤ 4) : checkL y = true := by
 unfold checkL
 rw [decide_eq_true hm]
 rcases c with c | c <;> rcases f.s with h | h <;> rcases f.l with g | g <;> simp_all
theorem parse_law {r r3 : List Tok} {y : X} (h : parseR r = some (r3, y)) :
  checkL y = true ∧ numX y ∧ ∃ used, used ≠ [] ∧ r = used ++ r3 ∧ ∀ u, Good u → parseR (used ++ u) = some (u, y) := by
 cases r with
 | nil => simp [parseR, sumR, tailOf, first] at h
 | cons t r1 =>
  simp only [parseR] at h
  by_cases hp : t.k = 1 ∧ t.t.getD 0 0 = 37
  ·
   rw [if_pos hp] at h
   by_cases hm : modL t.t = 0
   ·
    rw [if_pos hm] at h; cases h
   ·
    rw [if_neg hm] at h
    cases r1 with
    | nil => cases h
    | cons u r2 =>
     simp only at h
     by_cases hu : u = mk 40
     ·
      rw [if_pos hu] at h
      cases hs : sumR r2 { x0 with m := modL t.t } with
      | none => rw [hs] at h; cases h
      | some p =>
       obtain ⟨q, z⟩ := p
       rw [hs] at h
       cases q with
       | nil => cases h
       | cons v r4 =>
        simp only at h
        by_cases hv : v = mk 41
        ·
         rw [if_pos hv] at h
         cases h
         obtain ⟨f, m, c, used, hne, e, hl⟩ := sum_law (fine0 _) hs
         refine ⟨check_of f c (by rw [m]; exact mod_le _), f.n, t :: u :: (used ++ [v]), by simp, by rw [e]; simp, fun w hg => ?_⟩
         simp only [List.cons_append, parseR, List.append_assoc, List.nil_append]
         rw [if_pos hp, if_neg hm, if_pos hu, hl (v :: w) ⟨by rw [hv]; rfl, by rw [hv]; rfl⟩]
         simp only
         rw [if_pos hv]
        ·
         rw [if_neg hv] at h; cases h
     ·
      rw [if_neg hu] at h; cases h
  ·
   rw [if_neg hp] at h
   obtain ⟨f, m, c, used, hne, e, hl⟩ := sum_law (fine0 0) h
   refine ⟨check_of f c (by rw [m]; exact Nat.zero_le _), f.n, used, hne, e, fun u hg => ?_⟩
   cases used with
   | nil => exact absurd rfl hne
   | cons a used =>
    simp only [List.cons_append] at e hl ⊢
    injection e with e1 e2
    subst e1
    simp only [parseR]
    rw [if_neg hp]
    exact hl u hg
end Go.Proofs.YtbfndlfemhidaaaGreatDoor.Ex
/- What is told of expressions is read back, and hangs on what it stands on alone: plain Lean, no program in sight. -/
namespace Go.Proofs.YtbfndlfemhidaaaGreatDoor.Ex
open Go.Proofs.YtbfndlfemhidaaaGreatDoor.Lex
set_option linter.unusedSimpArgs false
set_option linter.unusedVariables false
def bodyX (x : X) : List Tok :=
 (if x.s ≠ [] then [⟨1, x.s, 0⟩] else []) ++ (if x.l ≠ [] then [mk 45, ⟨1, x.l, 0⟩] else []) ++ (if x.n ≠ 0 ∨ x.s = [] then (if x.s ≠ [] then [mk 43] else []) ++ [⟨2, [], x.n⟩] else [])
theorem toks_body (x : X) : toksX x = (if 0 < x.m then [⟨1, modName x.m, 0⟩, mk 40] else []) ++ bodyX x ++ (if 0 < x.m then [mk 41] else []) := by
 unfold toksX bodyX
 simp only [List.append_assoc]
theorem word_head {s : List UInt8} (h : wordL s = true) : ¬ s.getD 0 0 = 37 := by
 unfold wordL at h
 simp only [Bool.and_eq_true, Bool.not_eq_true', beq_eq_false_iff_ne] at h
 exact h.2
theorem word_may {s : List UInt8} (h : wordL s = true) : (nameL s || localL s) = true := by
 unfold wordL at h
 simp only [Bool.and_eq_true] at h
 exact h.1
theorem check_parts {x : X} (h : checkL x = true) : (x.s = [] ∨ wordL x.s = true) ∧ (x.l = [] ∨ (x.s ≠ [] ∧ wordL x.l = true)) ∧ x.m ≤ 4 := by
 unfold checkL at h
 simp only [Bool.and_eq_true, Bool.or_eq_true, decide_eq_true_eq] at h
 exact ⟨h.1.1, h.1.2, h.2⟩
theorem sum_body {x : X} (h : checkL x = true) (hn : numX x) {v : List Tok} (hv : Good v) : sumR (bodyX x ++ v) { x0 with m := x.m } = some (v, x) := by
 obtain ⟨hs, hl, hm⟩ := check_parts h
 obtain ⟨s, l, n, m⟩ := x
 have hw : w64 (0 + n) = n := by rw [Int.zero_add]; exact w64_id hn
 simp only [numX] at *
 by_cases c : s = []
 ·
  subst c
  have e : l = [] := by
   rcases hl with h | h
   ·
    exact h
   ·
    exact absurd rfl h.1
  subst e
  simp [bodyX, sumR, tailOf, first, mk, termT, x0, loop_good hv]
  simpa using hw
 ·
  have ws : wordL s = true := hs.resolve_left c
  by_cases d : l = []
  ·
   subst d
   by_cases z : n = 0
   ·
    subst z
    simp [bodyX, sumR, tailOf, first, mk, termT, x0, loop_good hv, c, ws]
   ·
    simp [bodyX, sumR, tailOf, first, mk, termT, x0, loop_good hv, c, ws, z, loopR, startsT]
    simpa using hw
  ·
   have wl : wordL l = true := (hl.resolve_left d).2
   by_cases z : n = 0
   ·
    subst z
    simp [bodyX, sumR, tailOf, first, mk, termT, x0, loop_good hv, c, ws, d, wl, loopR, startsT]
   ·
    simp [bodyX, sumR, tailOf, first, mk, termT, x0, loop_good hv, c, ws, d, wl, z, loopR, startsT]
    simpa using hw
theorem body_head {x : X} (h : checkL x = true) : ∃ t r, bodyX x = t :: r ∧ ¬ (t.k = 1 ∧ t.t.getD 0 0 = 37) := by
 obtain ⟨hs, hl, hm⟩ := check_parts h
 obtain ⟨s, l, n, m⟩ := x
 by_cases c : s = []
 ·
  subst c
  have e : l = [] := by
   rcases hl with h | h
   ·
    exact h
   ·
    exact absurd rfl h.1
  subst e
  exact ⟨⟨2, [], n⟩, [], by simp [bodyX], by simp⟩
 ·
  have ws : wordL s = true := hs.resolve_left c
  refine ⟨⟨1, s, 0⟩, _, by simp only [bodyX]; rw [if_pos c]; rfl, fun e => word_head ws e.2⟩
theorem mod_back : ∀ m, 0 < m → m ≤ 4 → modL (modName m) = m ∧ (modName m).getD 0 0 = 37 ∧ nameL (modName m) = true := by
 intro m h0 h4
 have : m = 1 ∨ m = 2 ∨ m = 3 ∨ m = 4 := by omega
 rcases this with rfl | rfl | rfl | rfl <;> decide
theorem parse_toks {x : X} (h : checkL x = true) (hn : numX x) {u : List Tok} (hu : Good u) : parseR (toksX x ++ u) = some (u, x) := by
 rw [toks_body]
 obtain ⟨hs, hl, hm⟩ := check_parts h
 by_cases h0 : 0 < x.m
 ·
  obtain ⟨a, b, c⟩ := mod_back x.m h0 hm
  rw [if_pos h0, if_pos h0]
  simp only [List.cons_append, List.nil_append, List.append_assoc, parseR]
  rw [if_pos ⟨trivial, b⟩, a, if_neg (by omega), if_pos trivial, sum_body h hn (v := mk 41 :: u) ⟨rfl, rfl⟩]
  simp only
  rw [if_pos trivial]
 ·
  have hz : x.m = 0 := by omega
  rw [if_neg h0, if_neg h0, List.nil_append, List.append_nil]
  obtain ⟨t, r, e, hp⟩ := body_head h
  have hb := sum_body h hn hu
  rw [e, hz] at hb
  rw [e, List.cons_append]
  simp only [parseR]
  rw [if_neg hp]
  exact hb
theorem toks_may {x : X} (h : checkL x = true) (hn : numX x) : ∀ t ∈ toksX x, mayL t = true ∧ numOk t := by
 obtain ⟨hs, hl, hm⟩ := check_parts h
 have z : -9223372036854775808 ≤ (0 : Int) ∧ (0 : Int) < 9223372036854775808 := by omega
 have mark : ∀ c, markC c = true → mayL (mk c) = true ∧ numOk (mk c) := fun c hc => ⟨by simp [mayL, textL, mk, hc], z⟩
 have word : ∀ s, (nameL s || localL s) = true → mayL ⟨1, s, 0⟩ = true ∧ numOk ⟨1, s, 0⟩ := fun s hc => ⟨by simp only [mayL, textL]; rw [if_pos trivial]; simpa using hc, z⟩
 intro t ht
 unfold toksX at ht
 simp only [List.mem_append] at ht
 rcases ht with (((ht | ht) | ht) | ht) | ht
 ·
  split at ht
  ·
   rename_i h0
   obtain ⟨a, b, c⟩ := mod_back x.m h0 hm
   simp only [List.mem_cons, List.not_mem_nil, or_false] at ht
   rcases ht with rfl | rfl
   ·
    exact word _ (by rw [c]; rfl)
   ·
    exact mark 40 (by decide)
  ·
   cases ht
 ·
  split at ht
  ·
   rename_i h0
   simp only [List.mem_cons, List.not_mem_nil, or_false] at ht
   subst ht
   exact word _ (word_may (hs.resolve_left h0))
  ·
   cases ht
 ·
  split at ht
  ·
   rename_i h0
   simp only [List.mem_cons, List.not_mem_nil, or_false] at ht
   rcases ht with rfl | rfl
   ·
    exact mark 45 (by decide)
   ·
    exact word _ (word_may (hl.resolve_left h0).2)
  ·
   cases ht
 ·
  split at ht
  ·
   simp only [List.mem_append] at ht
   rcases ht with ht | ht
   ·
    split at ht
    ·
     simp only [List.mem_cons, List.not_mem_nil, or_false] at ht
     subst ht
     exact mark 43 (by decide)
    ·
     cases ht
   ·
    simp only [List.mem_cons, List.not_mem_nil, or_false] at ht
    subst ht
    refine ⟨?_, hn⟩
    simp only [mayL, textL]
    rw [if_neg (by decide), if_neg (by decide), if_neg (by decide), if_pos trivial]
    split <;> rfl
  ·
   cases ht
 ·
  split at ht
  ·
   simp only [List.mem_cons, List.not_mem_nil, or_false] at ht
   subst ht
   exact mark 41 (by decide)
  ·
   cases ht
theorem parse_back {x : X} (h : checkL x = true) (hn : numX x) {u : List Tok} (hu : Good u) (hm : u.all mayL = true) : parseL (toksX x ++ u) 0 = (x, (toksX x).length, 0) := by
 unfold parseL
 have ha : (toksX x ++ u).all mayL = true := by
  rw [List.all_append, hm, Bool.and_true, List.all_eq_true]
  exact fun t ht => (toks_may h hn t ht).1
 rw [if_neg (by rw [ha]; simp), if_neg (by omega)]
 rw [show (0 : Int).toNat = 0 from rfl, List.drop_zero, parse_toks h hn hu]
 simp only [List.length_append]
 rw [Nat.add_sub_cancel]
theorem good_nil : Good [] := ⟨rfl, rfl⟩
theorem parse_only {l : List Tok} {a : Int} {y : X} {n : Nat} (h : parseL l a = (y, n, 0)) :
  0 ≤ a ∧ a.toNat < n ∧ n ≤ l.length ∧ checkL y = true ∧ numX y ∧ parseL (l.take n) a = (y, n, 0) ∧ parseL (toksX y) 0 = (y, (toksX y).length, 0) := by
 unfold parseL at h
 by_cases hall : l.all mayL = false
 ·
  rw [if_pos hall] at h; simp at h
 rw [if_neg hall] at h
 by_cases hr : a < 0 ∨ (l.length : Int) < a
 ·
  rw [if_pos hr] at h; simp at h
 rw [if_neg hr] at h
 cases hp : parseR (l.drop a.toNat) with
 | none => rw [hp] at h; simp at h
 | some p =>
  obtain ⟨r, z⟩ := p
  rw [hp] at h
  simp only [Prod.mk.injEq, and_true] at h
  obtain ⟨rfl, rfl⟩ := h
  obtain ⟨hc, hn, used, hne, e, hu⟩ := parse_law hp
  have hlen := congrArg List.length e
  rw [List.length_drop, List.length_append] at hlen
  have hpos : 0 < used.length := List.length_pos_iff.2 hne
  have hb := parse_back hc hn good_nil rfl
  rw [List.append_nil] at hb
  refine ⟨by omega, by omega, by omega, hc, hn, ?_, hb⟩
  have hall' : (l.take (l.length - r.length)).all mayL = true := by
   rw [List.all_eq_true]
   have : l.all mayL = true := by simpa using hall
   exact fun t ht => List.all_eq_true.1 this t (List.mem_of_mem_take ht)
  have htake : (l.take (l.length - r.length)).drop a.toNat = used := by
   rw [List.drop_take, e, show l.length - r.length - a.toNat = used.length by omega, List.take_left']
   rfl
  unfold parseL
  rw [if_neg (by rw [hall']; simp), if_neg (by rw [List.length_take]; omega), htake]
  have hu0 := hu [] good_nil
  rw [List.append_nil] at hu0
  rw [hu0]
  simp only [List.length_take, List.length_nil]
  rw [Nat.sub_zero, Nat.min_eq_left (by omega)]
end Go.Proofs.YtbfndlfemhidaaaGreatDoor.Ex
/- The document's way through a sum (all signed terms first, then how many words there are) answers what the program's way does: plain Lean, no program in sight. -/
namespace Go.Proofs.YtbfndlfemhidaaaGreatDoor.Ex
open Go.Proofs.YtbfndlfemhidaaaGreatDoor.Lex
set_option linter.unusedSimpArgs false
set_option linter.unusedVariables false
structure InvQ (x : X) (p q : Nat) : Prop where
 p1 : p ≤ 1
 q1 : q ≤ 1
 s : x.s = [] ↔ p = 0
 l : x.l = [] ↔ q = 0
end Go.Proofs.YtbfndlfemhidaaaGreatDoor.Ex
/- Registers, labels, and a line's tokens, on lists: plain Lean, no program in sight. -/
namespace Go.Proofs.YtbfndlfemhidaaaGreatDoor.Li
open Go.Proofs.YtbfndlfemhidaaaGreatDoor.Lex Go.Proofs.YtbfndlfemhidaaaGreatDoor.Ex
set_option linter.unusedSimpArgs false
set_option linter.unusedVariables false
def regNames : List (List UInt8) := [[122, 101, 114, 111], [114, 97], [115, 112], [103, 112], [116, 112], [116, 48], [116, 49], [116, 50], [115, 48], [115, 49], [97, 48], [97, 49], [97, 50], [97, 51], [97, 52], [97, 53], [97, 54], [97, 55], [115, 50], [115, 51], [115, 52], [115, 53], [115, 54], [115, 55], [115, 56], [115, 57], [115, 49, 48], [115, 49, 49], [116, 51], [116, 52], [116, 53], [116, 54]]
def findL (s : List UInt8) : List (List UInt8) → Nat → Option Nat
 | [], _ => none
 | x :: l, i => if s = x then some i else findL s l (i + 1)
def xReg (s : List UInt8) : Nat → Nat → Option Nat
 | 0, _ => none
 | d + 1, n => if s = 120 :: decL n then some n else xReg s d (n + 1)
def regL (s : List UInt8) : Option Nat := match findL s regNames 0 with
 | some n => some n
 | none => if s = [102, 112] then some 8 else xReg s 32 0
def calledL (n : Int) : List UInt8 × Nat := if n < 0 ∨ 32 ≤ n then ([], 2) else (regNames.getD n.toNat [], 0)
def plainL (s : List UInt8) : Bool := nameL s && !(s.getD 0 0 == 37)
def countL (s : List UInt8) : Bool := !s.isEmpty && s.all digitC && decide (s.length ≤ 9) && decide (decL (decNat s) = s)
def labelL (s : List UInt8) : Option Tok := if plainL s then some ⟨1, s, 0⟩ else if countL s then some ⟨2, [], (decNat s : Int)⟩ else none
end Go.Proofs.YtbfndlfemhidaaaGreatDoor.Li
