/- Plain laws of a line's words: what is written is read back; two lines; blanks. -/
import Derived.Test.YtgihgmniijhfoaaDoorZLexSpec
namespace Go.Proofs.YtgihgmniijhfoaaDoor.Lex
set_option linter.unusedSimpArgs false
set_option linter.unusedVariables false

/-- What is so of each byte, by going through all. -/
theorem bytes {p : UInt8 → Bool} (h : ∀ n, n < 256 → p (UInt8.ofNat n) = true) (c : UInt8) : p c = true := by
  have := h c.toNat c.toNat_lt
  rwa [UInt8.ofNat_toNat] at this
theorem start_facts (c : UInt8) (h : startC c = true) : markC c = false ∧ c ≠ 34 ∧ c ≠ 32 ∧ c ≠ 9 ∧ c ≠ 35 := by
  have := bytes (p := fun c => !startC c || (!markC c && c != 34 && c != 32 && c != 9 && c != 35)) (by decide +kernel) c
  simp [h] at this
  simp [this]
theorem digit_facts (c : UInt8) (h : digitC c = true) : markC c = false ∧ c ≠ 34 ∧ c ≠ 32 ∧ c ≠ 9 ∧ c ≠ 35 ∧ startC c = false ∧ insideC c = true ∧ c ≠ 120 ∧ hexC c = true := by
  have := bytes (p := fun c => !digitC c || (!markC c && c != 34 && c != 32 && c != 9 && c != 35 && !startC c && insideC c && c != 120 && hexC c)) (by decide +kernel) c
  simp [h] at this
  simp [this]
theorem mark_facts (c : UInt8) (h : markC c = true) : c ≠ 32 ∧ c ≠ 9 ∧ c ≠ 35 := by
  have := bytes (p := fun c => !markC c || (c != 32 && c != 9 && c != 35)) (by decide +kernel) c
  simp [h] at this
  simp [this]
theorem esc_unesc (c : UInt8) (h : unescL c ≠ 0) : escL (unescL c) = some c := by
  have := bytes (p := fun c => unescL c == 0 || escL (unescL c) == some c) (by decide +kernel) c
  simp [h] at this
  exact this
theorem unesc_esc {x y : UInt8} (h : escL x = some y) : unescL y ≠ 0 := by
  have := bytes (p := fun c => match escL c with | none => true | some y => unescL y != 0) (by decide +kernel) x
  rw [h] at this
  simpa using this
theorem unesc0 (c : UInt8) (h : unescL c = 0) : c ≠ 34 ∧ c ≠ 92 := by
  have := bytes (p := fun c => unescL c != 0 || (c != 34 && c != 92)) (by decide +kernel) c
  simp [h] at this
  exact this
theorem hexDig_facts : ∀ n, n < 16 → insideC (hexDig n) = true ∧ hexC (hexDig n) = true ∧ hexVal (hexDig n) = n := by decide +kernel
theorem decDig_facts : ∀ n, n < 10 → digitC (decDig n) = true ∧ (decDig n).toNat - 48 = n := by decide +kernel
theorem inside32 : insideC 32 = false := by decide
theorem digit32 : digitC 32 = false := by decide
theorem hex32 : hexC 32 = false := by decide

section
variable {p : UInt8 → Bool}
theorem many_le : ∀ l : List UInt8, many p l ≤ l.length
  | [] => Nat.le_refl _
  | c :: t => by
    simp only [many, List.length_cons]
    have := many_le t
    split <;> omega
theorem many_app {u : List UInt8} (h : u = [] ∨ ∃ t, u = 32 :: t) (h32 : p 32 = false) : ∀ l : List UInt8, many p (l ++ u) = many p l
  | [] => by rcases h with rfl | ⟨t, rfl⟩ <;> simp [many, h32]
  | c :: t => by simp only [List.cons_append, many, many_app h h32 t]
theorem many_all : ∀ l : List UInt8, (∀ c ∈ l, p c = true) → many p l = l.length
  | [], _ => rfl
  | c :: t, h => by
    simp only [many, List.length_cons, h c (by simp), if_true]
    rw [many_all t (fun x hx => h x (by simp [hx]))]
theorem all_many : ∀ l : List UInt8, many p l = l.length → ∀ c ∈ l, p c = true
  | [], _ => by simp
  | c :: t, h => by
    simp only [many, List.length_cons] at h
    split at h
    · rename_i hc
      intro x hx
      rcases List.mem_cons.1 hx with rfl | hx
      · exact hc
      · exact all_many t (by omega) x hx
    · omega
theorem many_take : ∀ l : List UInt8, ∀ c ∈ l.take (many p l), p c = true
  | [] => by simp
  | c :: t => by
    simp only [many]
    split
    · rename_i hc
      intro x hx
      rw [List.take_succ_cons] at hx
      rcases List.mem_cons.1 hx with rfl | hx
      · exact hc
      · exact many_take t x hx
    · simp
theorem many_pre : ∀ (a u : List UInt8), (∀ c ∈ a, p c = true) → many p (a ++ u) = a.length + many p u
  | [], u, _ => by simp
  | c :: t, u, h => by
    simp only [List.cons_append, many, h c (by simp), if_true, List.length_cons]
    rw [many_pre t u (fun x hx => h x (by simp [hx]))]
    omega
theorem many_at : ∀ (l : List UInt8), many p l < l.length → p (l.getD (many p l) 0) = false
  | [], h => by simp at h
  | c :: t, h => by
    simp only [many] at h ⊢
    split
    · rename_i hc
      rw [if_pos hc] at h
      simpa using many_at t (by simp at h; omega)
    · rename_i hc
      simpa using hc
end

/-! ### quoted texts -/
theorem quoted_plain {c : UInt8} {r : List UInt8} (hr : r ≠ []) (h1 : c ≠ 34) (h2 : c ≠ 92) (hp : plainC c = true) (i : Nat) (b : List UInt8) : quotedL (c :: r) i b = quotedL r (i + 1) (b ++ [c]) := by
  cases r with
  | nil => exact absurd rfl hr
  | cons x t => rw [quotedL, if_neg h1, if_neg h2, if_pos hp]
theorem quoted_end (u : List UInt8) (i : Nat) (b : List UInt8) : quotedL (34 :: u) i b = (b, i + 1) := by
  cases u with
  | nil => rw [quotedL, if_pos rfl]
  | cons x t => rw [quotedL, if_pos rfl]
theorem quoted_app (u : List UInt8) : ∀ (r : List UInt8) (i : Nat) (b : List UInt8), (quotedL r i b).2 ≠ 0 → quotedL (r ++ u) i b = quotedL r i b
  | [], i, b => by simp [quotedL]
  | [c], i, b => by
    rw [quotedL]
    split
    · rename_i h
      subst h
      intro _
      exact quoted_end u i b
    · intro h
      exact absurd rfl h
  | c :: x :: t, i, b => by
    show _ → quotedL (c :: x :: (t ++ u)) i b = _
    rw [quotedL, quotedL]
    split
    · intro _; rfl
    · split
      · cases escL x with
        | none => intro _; rfl
        | some y => exact quoted_app u t (i + 2) (b ++ [y])
      · split
        · exact quoted_app u (x :: t) (i + 1) (b ++ [c])
        · intro _; rfl
theorem quoted_bound : ∀ (r : List UInt8) (i : Nat) (b : List UInt8), (quotedL r i b).2 ≠ 0 → i < (quotedL r i b).2 ∧ (quotedL r i b).2 ≤ i + r.length ∧ (quotedL r i b).1.length ≤ b.length + r.length
  | [], i, b => by simp [quotedL]
  | [c], i, b => by
    rw [quotedL]
    split
    · intro _; simp
    · intro h; exact absurd rfl h
  | c :: x :: t, i, b => by
    rw [quotedL]
    split
    · intro _; simp
    · split
      · cases escL x with
        | none => intro h; exact absurd rfl h
        | some y =>
          intro h
          have := quoted_bound t (i + 2) (b ++ [y]) h
          simp only [List.length_cons, List.length_append, List.length_nil] at this ⊢
          exact ⟨by omega, by omega, by omega⟩
      · split
        · intro h
          have := quoted_bound (x :: t) (i + 1) (b ++ [c]) h
          simp only [List.length_cons, List.length_append, List.length_nil] at this ⊢
          exact ⟨by omega, by omega, by omega⟩
        · intro h; exact absurd rfl h
def tellC (c : UInt8) : Prop := unescL c ≠ 0 ∨ plainC c = true
theorem quoted_tell : ∀ (r : List UInt8) (i : Nat) (b : List UInt8), (∀ c ∈ b, tellC c) → ∀ c ∈ (quotedL r i b).1, tellC c
  | [], i, b, _ => by simp [quotedL]
  | [c], i, b, h => by
    rw [quotedL]
    split
    · exact h
    · simp
  | c :: x :: t, i, b, h => by
    rw [quotedL]
    split
    · exact h
    · split
      · cases hx : escL x with
        | none => simp
        | some y =>
          exact quoted_tell t (i + 2) (b ++ [y]) (fun z hz => by
            rcases List.mem_append.1 hz with hz | hz
            · exact h z hz
            · obtain rfl := List.mem_singleton.1 hz
              exact .inl (unesc_esc hx))
      · split
        · rename_i hp
          exact quoted_tell (x :: t) (i + 1) (b ++ [c]) (fun z hz => by
            rcases List.mem_append.1 hz with hz | hz
            · exact h z hz
            · obtain rfl := List.mem_singleton.1 hz
              exact .inr hp)
        · simp
theorem shown_some : ∀ (s b : List UInt8), (∀ c ∈ s, tellC c) → ∃ z, shownL s b = some z
  | [], b, _ => ⟨_, rfl⟩
  | c :: t, b, h => by
    rw [shownL]
    have ht := fun x hx => h x (List.mem_cons_of_mem c hx)
    split
    · exact shown_some t _ ht
    · rename_i h0
      rcases h c (by simp) with h1 | h1
      · exact absurd h1 h0
      · rw [if_pos h1]
        exact shown_some t _ ht
theorem shown_back : ∀ (s b z : List UInt8), shownL s b = some z → ∃ w, z = b ++ w ∧ w ≠ [] ∧ ∀ u i acc, quotedL (w ++ u) i acc = (acc ++ s, i + w.length)
  | [], b, z, h => by
    rw [shownL] at h
    obtain rfl := Option.some.inj h
    exact ⟨[34], rfl, by simp, fun u i acc => by rw [List.append_nil]; exact quoted_end u i acc⟩
  | c :: t, b, z, h => by
    rw [shownL] at h
    split at h
    · rename_i h0
      obtain ⟨w, rfl, hw, hq⟩ := shown_back t _ z h
      refine ⟨92 :: unescL c :: w, by simp, by simp, fun u i acc => ?_⟩
      show quotedL (92 :: unescL c :: (w ++ u)) i acc = _
      rw [quotedL, if_neg (by decide), if_pos rfl, esc_unesc c h0]
      show quotedL (w ++ u) (i + 2) (acc ++ [c]) = _
      rw [hq]
      simp
      omega
    · rename_i h0
      split at h
      · rename_i hp
        obtain ⟨w, rfl, hw, hq⟩ := shown_back t _ z h
        refine ⟨c :: w, by simp, by simp, fun u i acc => ?_⟩
        have := unesc0 c (Decidable.not_not.1 h0)
        show quotedL (c :: (w ++ u)) i acc = _
        rw [quoted_plain (by simp [hw]) this.1 this.2 hp, hq]
        simp
        omega
      · cases h

/-! ### numbers -/
theorem hexPad_len : ∀ k n, (hexPad k n).length = k
  | 0, _ => rfl
  | k + 1, n => by simp [hexPad, hexPad_len k]
theorem hexPad_all {p : UInt8 → Bool} (hp : ∀ n, n < 16 → p (hexDig n) = true) : ∀ k n, ∀ c ∈ hexPad k n, p c = true
  | 0, _ => by simp [hexPad]
  | k + 1, n => fun c hc => by
    rcases List.mem_append.1 hc with hc | hc
    · exact hexPad_all hp k _ c hc
    · obtain rfl := List.mem_singleton.1 hc
      exact hp _ (Nat.mod_lt _ (by decide))
theorem hexNat_snoc (l : List UInt8) (c : UInt8) : hexNat (l ++ [c]) = hexNat l * 16 + hexVal c := by simp [hexNat]
theorem decNat_snoc (l : List UInt8) (c : UInt8) : decNat (l ++ [c]) = decNat l * 10 + (c.toNat - 48) := by simp [decNat]
theorem hexPad_val : ∀ k n, hexNat (hexPad k n) = n % 16 ^ k
  | 0, n => by simp [hexPad, hexNat, Nat.mod_one]
  | k + 1, n => by
    rw [hexPad, hexNat_snoc, hexPad_val k, (hexDig_facts _ (Nat.mod_lt n (by decide))).2.2, Nat.pow_succ, Nat.mul_comm (16 ^ k) 16, Nat.mod_mul]
    omega
theorem dec_all (n : Nat) : ∀ c ∈ decL n, digitC c = true := by
  induction n using Nat.strongRecOn with
  | _ n ih =>
    rw [decL]
    split
    · rename_i h
      intro c hc
      obtain rfl := List.mem_singleton.1 hc
      exact (decDig_facts n h).1
    · rename_i h
      intro c hc
      rcases List.mem_append.1 hc with hc | hc
      · exact ih (n / 10) (by omega) c hc
      · obtain rfl := List.mem_singleton.1 hc
        exact (decDig_facts _ (Nat.mod_lt n (by decide))).1
theorem dec_val (n : Nat) : decNat (decL n) = n := by
  induction n using Nat.strongRecOn with
  | _ n ih =>
    rw [decL]
    split
    · rename_i h
      have := (decDig_facts n h).2
      simp [decNat, this]
    · rename_i h
      rw [decNat_snoc, ih (n / 10) (by omega), (decDig_facts _ (Nat.mod_lt n (by decide))).2]
      omega
theorem dec_ne (n : Nat) : decL n ≠ [] := by
  rw [decL]
  split <;> simp
theorem dec_len (k n : Nat) (hk : 0 < k) (h : n < 10 ^ k) : (decL n).length ≤ k := by
  induction k generalizing n with
  | zero => omega
  | succ k ih =>
    rw [decL]
    split
    · simp
    · rename_i h10
      rw [List.length_append, List.length_singleton]
      have h1 : n / 10 < 10 ^ k := by
        rw [Nat.div_lt_iff_lt_mul (by decide)]
        rw [Nat.pow_succ] at h
        exact h
      have : 0 < k := by
        rcases Nat.eq_zero_or_pos k with rfl | hk
        · simp at h1
          omega
        · exact hk
      have := ih (n / 10) this h1
      omega
theorem decNat_lt : ∀ l : List UInt8, (∀ c ∈ l, digitC c = true) → decNat l < 10 ^ l.length := by
  intro l
  induction hn : l.length generalizing l with
  | zero =>
    intro _
    obtain rfl := List.eq_nil_of_length_eq_zero hn
    simp [decNat]
  | succ k ih =>
    intro h
    obtain ⟨a, c, rfl⟩ : ∃ a c, l = a ++ [c] := by
      have hne : l ≠ [] := by intro h0; rw [h0] at hn; simp at hn
      exact ⟨l.dropLast, l.getLast hne, (List.dropLast_concat_getLast hne).symm⟩
    rw [List.length_append, List.length_singleton] at hn
    have h1 := ih a (by omega) (fun x hx => h x (List.mem_append_left _ hx))
    have hc := h c (by simp)
    have h2 : c.toNat - 48 < 10 := by
      have := bytes (p := fun c => !digitC c || decide (c.toNat - 48 < 10)) (by decide +kernel) c
      simp [hc] at this
      exact this
    rw [decNat_snoc, Nat.pow_succ]
    omega
theorem hexNat_lt : ∀ l : List UInt8, (∀ c ∈ l, hexC c = true) → hexNat l < 16 ^ l.length := by
  intro l
  induction hn : l.length generalizing l with
  | zero =>
    intro _
    obtain rfl := List.eq_nil_of_length_eq_zero hn
    simp [hexNat]
  | succ k ih =>
    intro h
    obtain ⟨a, c, rfl⟩ : ∃ a c, l = a ++ [c] := by
      have hne : l ≠ [] := by intro h0; rw [h0] at hn; simp at hn
      exact ⟨l.dropLast, l.getLast hne, (List.dropLast_concat_getLast hne).symm⟩
    rw [List.length_append, List.length_singleton] at hn
    have h1 := ih a (by omega) (fun x hx => h x (List.mem_append_left _ hx))
    have hc := h c (by simp)
    have h2 : hexVal c < 16 := by
      have := bytes (p := fun c => !hexC c || decide (hexVal c < 16)) (by decide +kernel) c
      simp [hc] at this
      exact this
    rw [hexNat_snoc, Nat.pow_succ]
    omega
theorem toI64_ofI64 {n : Int} (h0 : -9223372036854775808 ≤ n) (h1 : n < 9223372036854775808) : toI64 (ofI64 n) = n := by
  unfold toI64 ofI64
  split <;> omega
theorem ofI64_lt (n : Int) : ofI64 n < 16 ^ 16 := by
  unfold ofI64
  have : (16 : Nat) ^ 16 = 18446744073709551616 := by decide
  omega
theorem toI64_range {n : Nat} (h : n < 18446744073709551616) : -9223372036854775808 ≤ toI64 n ∧ toI64 n < 9223372036854775808 := by
  unfold toI64
  split <;> omega
def numOk (x : Tok) : Prop := -9223372036854775808 ≤ x.n ∧ x.n < 9223372036854775808
theorem num_range (l : List UInt8) : -9223372036854775808 ≤ (numL l).1 ∧ (numL l).1 < 9223372036854775808 := by
  unfold numL
  split
  · split
    · simp
    · rename_i h
      have h1 := hexNat_lt ((l.drop 2).take (many hexC (l.drop 2))) (many_take _)
      have h2 : ((l.drop 2).take (many hexC (l.drop 2))).length ≤ 16 := by
        rw [List.length_take]
        omega
      exact toI64_range (Nat.lt_of_lt_of_le h1 (Nat.le_trans (Nat.pow_le_pow_right (by decide) h2) (by decide)))
  · split
    · simp
    · rename_i h
      have h1 := decNat_lt (l.take (many digitC l)) (many_take _)
      have h2 : (l.take (many digitC l)).length ≤ 18 := by
        rw [List.length_take]
        omega
      have h3 := Nat.lt_of_lt_of_le h1 (Nat.le_trans (Nat.pow_le_pow_right (by decide) h2) (show (10 : Nat) ^ 18 ≤ 9223372036854775807 by decide))
      show -9223372036854775808 ≤ ((decNat (l.take (many digitC l)) : Nat) : Int) ∧ ((decNat (l.take (many digitC l)) : Nat) : Int) < 9223372036854775808
      omega
theorem num_le (l : List UInt8) : (numL l).2 ≤ l.length := by
  unfold numL
  split
  · rename_i h
    split
    · simp
    · have := many_le (p := hexC) (l.drop 2)
      rw [List.length_drop] at this
      show many hexC (l.drop 2) + 2 ≤ l.length
      omega
  · split
    · simp
    · exact many_le l
end Go.Proofs.YtgihgmniijhfoaaDoor.Lex
