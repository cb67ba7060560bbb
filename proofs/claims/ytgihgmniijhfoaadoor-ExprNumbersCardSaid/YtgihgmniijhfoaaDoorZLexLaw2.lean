/- Plain laws of a line's words: the token with which a line goes on hangs on its own bytes alone; tokens that may be are read back; what is read may be. -/
import Derived.Test.YtgihgmniijhfoaaDoorZLexLaw
namespace Go.Proofs.YtgihgmniijhfoaaDoor.Lex
set_option linter.unusedSimpArgs false
set_option linter.unusedVariables false

def Ends (u : List UInt8) : Prop := u = [] ∨ ∃ t, u = 32 :: t
theorem num_app {l u : List UInt8} (hu : Ends u) (h0 : (numL l).2 ≠ 0) (hn : (numL l).2 = many insideC l) : numL (l ++ u) = numL l := by
  unfold numL at h0 hn ⊢
  by_cases hx : 2 < l.length ∧ l.take 2 = [48, 120]
  · rw [if_pos hx] at h0 hn ⊢
    have e2 : (l ++ u).take 2 = l.take 2 := List.take_append_of_le_length (by omega)
    have e3 : (l ++ u).drop 2 = l.drop 2 ++ u := List.drop_append_of_le_length (by omega)
    have e4 : many hexC (l.drop 2 ++ u) = many hexC (l.drop 2) := many_app hu hex32 _
    rw [if_pos ⟨by rw [List.length_append]; omega, by rw [e2]; exact hx.2⟩, e3, e4, List.take_append_of_le_length (many_le _)]
  · rw [if_neg hx] at h0 hn ⊢
    have e4 : many digitC (l ++ u) = many digitC l := many_app hu digit32 _
    have hd := many_le (p := digitC) l
    have hd0 : many digitC l ≠ 0 := by
      intro h
      rw [if_pos (.inl h)] at h0
      exact h0 rfl
    have hno : ¬ (2 < (l ++ u).length ∧ (l ++ u).take 2 = [48, 120]) := by
      rintro ⟨g1, g2⟩
      rcases l with _ | ⟨a, _ | ⟨b, t⟩⟩
      · exact hd0 rfl
      · rcases hu with rfl | ⟨t, rfl⟩
        · simp at g2
        · simp at g2
      · have : a = 48 ∧ b = 120 := by simpa using g2
        obtain ⟨rfl, rfl⟩ := this
        cases t with
        | cons x t => exact hx ⟨by simp, by simp⟩
        | nil => exact absurd hn (by decide)
    rw [if_neg hno, e4, List.take_append_of_le_length hd]
theorem next_le (l : List UInt8) : (nextL l).2 ≤ l.length := by
  unfold nextL
  cases l with
  | nil => simp [noTok]
  | cons c r =>
    show (if markC c then _ else _ : Tok × Nat).2 ≤ _
    split
    · simp
    · split
      · split
        · simp [noTok]
        · rename_i h
          have := quoted_bound r 0 [] h
          show (quotedL r 0 []).2 + 1 ≤ _
          simp only [List.length_cons]
          omega
      · split
        · split
          · have := many_le (p := insideC) r
            show 1 + many insideC r ≤ _
            simp only [List.length_cons]
            omega
          · simp [noTok]
        · split
          · exact many_le _
          · split
            · simp [noTok]
            · exact many_le _
theorem next_app {l u : List UInt8} (hu : Ends u) (h : (nextL l).2 ≠ 0) : nextL (l ++ u) = nextL l := by
  cases l with
  | nil => exact absurd rfl h
  | cons c r =>
    have e1 : many insideC (r ++ u) = many insideC r := many_app hu inside32 r
    have e2 : many insideC (c :: (r ++ u)) = many insideC (c :: r) := many_app (p := insideC) hu inside32 (c :: r)
    have e3 : (c :: (r ++ u)).take (1 + many insideC r) = (c :: r).take (1 + many insideC r) := List.take_append_of_le_length (l₁ := c :: r) (by have := many_le (p := insideC) r; simp only [List.length_cons]; omega)
    have e4 : (c :: (r ++ u)).take (many insideC (c :: r)) = (c :: r).take (many insideC (c :: r)) := List.take_append_of_le_length (l₁ := c :: r) (many_le _)
    rw [List.cons_append]
    unfold nextL at h ⊢
    simp only [] at h ⊢
    rw [e1, e2, e3, e4]
    by_cases h1 : markC c
    · rw [if_pos h1, if_pos h1]
    rw [if_neg h1] at h ⊢
    rw [if_neg h1]
    by_cases h2 : c = 34
    · rw [if_pos h2] at h ⊢
      rw [if_pos h2]
      by_cases h3 : (quotedL r 0 []).2 = 0
      · rw [if_pos h3] at h
        exact absurd rfl h
      · rw [quoted_app u r 0 [] h3]
    rw [if_neg h2] at h ⊢
    rw [if_neg h2]
    by_cases h3 : startC c
    · rw [if_pos h3, if_pos h3]
    rw [if_neg h3] at h ⊢
    rw [if_neg h3]
    by_cases h4 : localL ((c :: r).take (many insideC (c :: r)))
    · rw [if_pos h4, if_pos h4]
    rw [if_neg h4] at h ⊢
    rw [if_neg h4]
    by_cases h5 : (numL (c :: r)).2 = 0 ∨ (numL (c :: r)).2 ≠ many insideC (c :: r)
    · rw [if_pos h5] at h
      exact absurd rfl h
    · rw [show c :: (r ++ u) = (c :: r) ++ u from rfl, num_app hu (fun h => h5 (.inl h)) (Decidable.not_not.1 fun h => h5 (.inr h))]

/-! ### all of a line -/
theorem toks_fuel : ∀ (k k' : Nat) (l : List UInt8) (out : List Tok), l.length ≤ k → l.length ≤ k' → toksL k l out = toksL k' l out
  | 0, k', l, out, h, _ => by
    obtain rfl := List.eq_nil_of_length_eq_zero (Nat.le_zero.1 h)
    cases k' <;> rfl
  | k + 1, 0, l, out, _, h => by
    obtain rfl := List.eq_nil_of_length_eq_zero (Nat.le_zero.1 h)
    rfl
  | k + 1, k' + 1, [], out, _, _ => rfl
  | k + 1, k' + 1, c :: r, out, h, h' => by
    simp only [List.length_cons] at h h'
    rw [toksL, toksL]
    split
    · exact toks_fuel k k' r out (by omega) (by omega)
    · split
      · rfl
      · split
        · rfl
        · rename_i h0
          split
          · rfl
          · have := List.length_drop (i := (nextL (c :: r)).2) (l := c :: r)
            simp only [List.length_cons] at this
            exact toks_fuel k k' _ _ (by omega) (by omega)
theorem toks_app (u : List UInt8) : ∀ (k : Nat) (l : List UInt8) (out x : List Tok), l.length ≤ k → toksL k l out = (x, 0) →
    ((35 : UInt8) ∉ l → ∀ K, (l ++ 32 :: u).length ≤ K → toksL K (l ++ 32 :: u) out = toksL K u x) ∧
    ((∀ K, (l ++ 32 :: u).length ≤ K → toksL K (l ++ 32 :: u) out = (x, 0)) ∨ (∀ K, (l ++ 32 :: u).length ≤ K → toksL K (l ++ 32 :: u) out = toksL K u x))
  | k, [], out, x, _, h => by
    have hx : out = x := by
      cases k <;> · rw [toksL] at h; exact (Prod.mk.inj h).1
    subst hx
    have : ∀ K, ([] ++ 32 :: u : List UInt8).length ≤ K → toksL K ([] ++ 32 :: u) out = toksL K u out := by
      intro K hK
      simp only [List.nil_append, List.length_cons] at hK
      obtain ⟨K, rfl⟩ : ∃ m, K = m + 1 := ⟨K - 1, by omega⟩
      show toksL (K + 1) (32 :: u) out = _
      rw [toksL, if_pos (.inl rfl)]
      exact toks_fuel _ _ _ _ (by omega) (by omega)
    exact ⟨fun _ => this, .inr this⟩
  | 0, c :: r, out, x, hk, h => by simp at hk
  | k + 1, c :: r, out, x, hk, h => by
    simp only [List.length_cons] at hk
    rw [toksL] at h
    have step : ∀ K, ((c :: r) ++ 32 :: u).length ≤ K + 1 → toksL (K + 1) ((c :: r) ++ 32 :: u) out = _ := fun K _ => by rw [List.cons_append, toksL]
    by_cases h1 : c = 32 ∨ c = 9
    · rw [if_pos h1] at h
      obtain ⟨g1, g2⟩ := toks_app u k r out x (by omega) h
      have go : ∀ {z : Nat → List Tok × Nat}, (∀ K, u.length ≤ K → z K = z (K + 1)) → (∀ K, (r ++ 32 :: u).length ≤ K → toksL K (r ++ 32 :: u) out = z K) → ∀ K, ((c :: r) ++ 32 :: u).length ≤ K → toksL K ((c :: r) ++ 32 :: u) out = z K := by
        intro z hz g K hK
        simp only [List.cons_append, List.length_cons, List.length_append] at hK
        obtain ⟨K, rfl⟩ : ∃ m, K = m + 1 := ⟨K - 1, by omega⟩
        rw [List.cons_append, toksL, if_pos h1, g K (by simp only [List.length_append, List.length_cons]; omega)]
        exact hz K (by omega)
      have hz1 : ∀ K, u.length ≤ K → toksL K u x = toksL (K + 1) u x := fun K hK => toks_fuel _ _ _ _ hK (by omega)
      exact ⟨fun hn => go (z := fun K => toksL K u x) hz1 (g1 (fun hm => hn (List.mem_cons_of_mem _ hm))), g2.imp (fun g => go (z := fun _ => (x, 0)) (fun _ _ => rfl) g) (fun g => go (z := fun K => toksL K u x) hz1 g)⟩
    · rw [if_neg h1] at h
      by_cases h2 : c = 35
      · rw [if_pos h2] at h
        refine ⟨fun hn => absurd (by simp [h2]) hn, .inl fun K hK => ?_⟩
        simp only [List.cons_append, List.length_cons, List.length_append] at hK
        obtain ⟨K, rfl⟩ : ∃ m, K = m + 1 := ⟨K - 1, by omega⟩
        rw [List.cons_append, toksL, if_neg h1, if_pos h2]
        exact h
      · rw [if_neg h2] at h
        by_cases h3 : (nextL (c :: r)).2 = 0
        · rw [if_pos h3] at h
          exact absurd (Prod.mk.inj h).2 (by decide)
        · rw [if_neg h3] at h
          by_cases h4 : out.length = 64
          · rw [if_pos h4] at h
            exact absurd (Prod.mk.inj h).2 (by decide)
          · rw [if_neg h4] at h
            have hl := next_le (c :: r)
            have hd := List.length_drop (i := (nextL (c :: r)).2) (l := c :: r)
            simp only [List.length_cons] at hd hl
            obtain ⟨g1, g2⟩ := toks_app u k _ _ x (by omega) h
            have ea : nextL (c :: (r ++ 32 :: u)) = nextL (c :: r) := next_app (l := c :: r) (.inr ⟨u, rfl⟩) h3
            have ed : (c :: (r ++ 32 :: u)).drop (nextL (c :: r)).2 = (c :: r).drop (nextL (c :: r)).2 ++ 32 :: u := List.drop_append_of_le_length (l₁ := c :: r) (by simpa using hl)
            have go : ∀ {z : Nat → List Tok × Nat}, (∀ K, u.length ≤ K → z K = z (K + 1)) → (∀ K, ((c :: r).drop (nextL (c :: r)).2 ++ 32 :: u).length ≤ K → toksL K ((c :: r).drop (nextL (c :: r)).2 ++ 32 :: u) (out ++ [(nextL (c :: r)).1]) = z K) → ∀ K, ((c :: r) ++ 32 :: u).length ≤ K → toksL K ((c :: r) ++ 32 :: u) out = z K := by
              intro z hz g K hK
              simp only [List.cons_append, List.length_cons, List.length_append] at hK
              obtain ⟨K, rfl⟩ : ∃ m, K = m + 1 := ⟨K - 1, by omega⟩
              rw [List.cons_append, toksL, if_neg h1, if_neg h2, ea, if_neg h3, if_neg h4, ed, g K (by simp only [List.length_append, List.length_cons]; omega)]
              exact hz K (by omega)
            have hz1 : ∀ K, u.length ≤ K → toksL K u x = toksL (K + 1) u x := fun K hK => toks_fuel _ _ _ _ hK (by omega)
            exact ⟨fun hn => go (z := fun K => toksL K u x) hz1 (g1 (fun hm => hn (List.mem_of_mem_drop hm))), g2.imp (fun g => go (z := fun _ => (x, 0)) (fun _ _ => rfl) g) (fun g => go (z := fun K => toksL K u x) hz1 g)⟩
theorem toks_ahead : ∀ (k : Nat) (l : List UInt8) (out y : List Tok), toksL k l out = (y, 0) → ∃ z, y = out ++ z ∧ ∀ x : List Tok, x.length ≤ 64 → toksL k l x = if x.length + z.length ≤ 64 then (x ++ z, 0) else ([], 4)
  | 0, l, out, y, h => by
    rw [toksL] at h
    exact ⟨[], by rw [(Prod.mk.inj h).1]; simp, fun x hx => by rw [toksL, if_pos (by simpa using hx)]; simp⟩
  | k + 1, [], out, y, h => by
    rw [toksL] at h
    exact ⟨[], by rw [(Prod.mk.inj h).1]; simp, fun x hx => by rw [toksL, if_pos (by simpa using hx)]; simp⟩
  | k + 1, c :: r, out, y, h => by
    rw [toksL] at h
    by_cases h1 : c = 32 ∨ c = 9
    · rw [if_pos h1] at h
      obtain ⟨z, hy, hz⟩ := toks_ahead k r out y h
      exact ⟨z, hy, fun x hx => by rw [toksL, if_pos h1]; exact hz x hx⟩
    · rw [if_neg h1] at h
      by_cases h2 : c = 35
      · rw [if_pos h2] at h
        exact ⟨[], by rw [(Prod.mk.inj h).1]; simp, fun x hx => by rw [toksL, if_neg h1, if_pos h2, if_pos (by simpa using hx)]; simp⟩
      · rw [if_neg h2] at h
        by_cases h3 : (nextL (c :: r)).2 = 0
        · rw [if_pos h3] at h
          exact absurd (Prod.mk.inj h).2 (by decide)
        · rw [if_neg h3] at h
          by_cases h4 : out.length = 64
          · rw [if_pos h4] at h
            exact absurd (Prod.mk.inj h).2 (by decide)
          · rw [if_neg h4] at h
            obtain ⟨z, hy, hz⟩ := toks_ahead k _ _ y h
            refine ⟨(nextL (c :: r)).1 :: z, by rw [hy]; simp, fun x hx => ?_⟩
            rw [toksL, if_neg h1, if_neg h2, if_neg h3]
            by_cases h5 : x.length = 64
            · rw [if_pos h5, if_neg (by simp only [List.length_cons]; omega)]
            · rw [if_neg h5, hz _ (by rw [List.length_append, List.length_singleton]; omega)]
              simp only [List.length_append, List.length_cons, List.length_nil, Nat.zero_add, List.append_assoc, List.singleton_append]
              by_cases h6 : x.length + 1 + z.length ≤ 64
              · rw [if_pos h6, if_pos (by omega)]
              · rw [if_neg h6, if_neg (by omega)]

/-! ### tokens that may be -/
theorem nameL_cons {l : List UInt8} (h : nameL l = true) : ∃ c t, l = c :: t ∧ t.length < 32 ∧ startC c = true ∧ many insideC t = t.length := by
  cases l with
  | nil => cases h
  | cons c t =>
    simp only [nameL, Bool.and_eq_true, decide_eq_true_eq] at h
    exact ⟨c, t, rfl, h.1.1, h.1.2, h.2⟩
theorem local_facts {l : List UInt8} (h : localL l = true) : 1 ≤ many digitC l ∧ many digitC l ≤ 9 ∧ l.length = many digitC l + 1 ∧ insideC (l.getD (many digitC l) 0) = true ∧ many insideC l = l.length := by
  simp only [localL, Bool.and_eq_true, decide_eq_true_eq, Bool.or_eq_true, beq_iff_eq] at h
  obtain ⟨⟨⟨h1, h2⟩, h3⟩, h4⟩ := h
  have h5 : insideC (l.getD (many digitC l) 0) = true := by
    rcases h4 with h4 | h4 <;> (rw [h4]; decide)
  refine ⟨h1, h2, h3, h5, many_all _ fun c hc => ?_⟩
  have e : l = l.take (many digitC l) ++ [l.getD (many digitC l) 0] := by
    have e1 : l.drop (many digitC l) = [l.getD (many digitC l) 0] := by
      rw [List.drop_eq_getElem_cons (by omega), List.drop_eq_nil_of_le (by omega)]
      simp [List.getD, List.getElem?_eq_getElem (show many digitC l < l.length by omega)]
    conv => lhs; rw [← List.take_append_drop (many digitC l) l, e1]
  rw [e] at hc
  rcases List.mem_append.1 hc with hc | hc
  · exact (digit_facts c (many_take l c hc)).2.2.2.2.2.2.1
  · obtain rfl := List.mem_singleton.1 hc
    exact h5
theorem text_dec {x : Tok} (h1 : x.k = 2) (h2 : 0 ≤ x.n ∧ x.n < 1000000000000000000) : textL x = (decL x.n.toNat, decide (x.t = [])) := by
  unfold textL
  rw [if_neg (by omega), if_neg (by omega), if_neg (by omega), if_pos h1, if_pos h2]
theorem text_hex {x : Tok} (h1 : x.k = 2) (h2 : ¬ (0 ≤ x.n ∧ x.n < 1000000000000000000)) : textL x = ([48, 120] ++ hexPad 16 (ofI64 x.n), decide (x.t = [])) := by
  unfold textL
  rw [if_neg (by omega), if_neg (by omega), if_neg (by omega), if_pos h1, if_neg h2]
/-- A token that may be, ahead of a blank or a line's end, is read as it was. -/
theorem next_text {x : Tok} (hm : mayL x = true) (hn : numOk x) {u : List UInt8} (hu : Ends u) :
    nextL ((textL x).1 ++ u) = (x, (textL x).1.length) ∧ ∃ c r, (textL x).1 = c :: r ∧ c ≠ 32 ∧ c ≠ 9 ∧ c ≠ 35 := by
  obtain ⟨k, t, n⟩ := x
  unfold mayL at hm
  by_cases k1 : k = 1
  · subst k1
    simp only [textL, if_pos, Bool.and_eq_true, decide_eq_true_eq, Bool.or_eq_true] at hm ⊢
    obtain ⟨rfl, hm⟩ := hm
    by_cases hN : nameL t = true
    · obtain ⟨c, r, rfl, h1, h2, h3⟩ := nameL_cons hN
      obtain ⟨f1, f2, f3, f4, f5⟩ := start_facts c h2
      refine ⟨?_, c, r, rfl, f3, f4, f5⟩
      have e1 : many insideC (r ++ u) = r.length := by rw [many_app hu inside32, h3]
      have e3 : (c :: (r ++ u)).take (1 + r.length) = c :: r := by
        rw [show c :: (r ++ u) = (c :: r) ++ u from rfl, List.take_left' (by simp; omega)]
      rw [List.cons_append]
      unfold nextL
      simp only []
      rw [if_neg (by simp [f1]), if_neg f2, if_pos h2, e1, e3, if_pos hN, Nat.add_comm]
      rfl
    · have hL : localL t = true := hm.resolve_left hN
      obtain ⟨h1, h2, h3, h4, h5⟩ := local_facts hL
      obtain ⟨c, r, rfl⟩ : ∃ c r, t = c :: r := by
        cases t with
        | nil => simp at h3
        | cons c r => exact ⟨c, r, rfl⟩
      have hd : digitC c = true := by
        simp only [many] at h1
        split at h1
        · assumption
        · omega
      obtain ⟨f1, f2, f3, f4, f5, f6, f7, f8, f9⟩ := digit_facts c hd
      refine ⟨?_, c, r, rfl, f3, f4, f5⟩
      have e2 : many insideC (c :: (r ++ u)) = (c :: r).length := by
        rw [show c :: (r ++ u) = (c :: r) ++ u from rfl, many_app hu inside32, h5]
      have e3 : (c :: (r ++ u)).take (c :: r).length = c :: r := by
        rw [show c :: (r ++ u) = (c :: r) ++ u from rfl, List.take_left]
      rw [List.cons_append]
      unfold nextL
      simp only []
      rw [if_neg (by simp [f1]), if_neg f2, if_neg (by simp [f6]), e2, e3, if_pos hL]
  by_cases k4 : k = 4
  · subst k4
    have e : textL ⟨4, t, n⟩ = (t, decide (n = 0) && decide (t.length = 1) && markC (t.getD 0 0)) := rfl
    rw [e] at hm ⊢
    simp only [Bool.and_eq_true, decide_eq_true_eq] at hm ⊢
    obtain ⟨⟨rfl, h1⟩, h2⟩ := hm
    obtain ⟨c, rfl⟩ : ∃ c, t = [c] := List.length_eq_one_iff.1 h1
    have h3 : markC c = true := by simpa using h2
    refine ⟨?_, c, [], rfl, mark_facts c h3⟩
    show nextL (c :: u) = _
    unfold nextL
    simp only []
    rw [if_pos h3]
    rfl
  by_cases k3 : k = 3
  · subst k3
    cases hs : shownL t [34] with
    | none =>
      have e : textL ⟨3, t, n⟩ = ([], false) := by unfold textL; simp [hs]
      rw [e] at hm
      cases hm
    | some z =>
      have e : textL ⟨3, t, n⟩ = (z, decide (n = 0) && decide (t.length ≤ 256)) := by unfold textL; simp [hs]
      rw [e] at hm ⊢
      simp only [Bool.and_eq_true, decide_eq_true_eq] at hm ⊢
      obtain ⟨rfl, h1⟩ := hm
      obtain ⟨w, rfl, hw, hq⟩ := shown_back t [34] z hs
      refine ⟨?_, 34, w, rfl, by decide, by decide, by decide⟩
      have hq := hq u 0 []
      show nextL (34 :: (w ++ u)) = _
      have hw0 : w.length ≠ 0 := by simpa using hw
      unfold nextL
      simp only []
      rw [if_neg (by decide), if_pos (by trivial), hq, if_neg (by simpa using hw)]
      simp
  by_cases k2 : k = 2
  · subst k2
    by_cases h2 : 0 ≤ n ∧ n < 1000000000000000000
    · rw [text_dec rfl h2] at hm ⊢
      simp only [decide_eq_true_eq] at hm ⊢
      subst hm
      obtain ⟨m, rfl⟩ := Int.eq_ofNat_of_zero_le h2.1
      simp only [Int.toNat_natCast]
      have hall := dec_all m
      have hval := dec_val m
      have hlen : (decL m).length ≤ 18 := dec_len 18 m (by decide) (by omega)
      obtain ⟨c, r, he⟩ : ∃ c r, decL m = c :: r := by
        cases h : decL m with
        | nil => exact absurd h (dec_ne m)
        | cons c r => exact ⟨c, r, rfl⟩
      rw [he] at hall hval hlen ⊢
      obtain ⟨f1, f2, f3, f4, f5, f6, f7, f8, f9⟩ := digit_facts c (hall c (by simp))
      refine ⟨?_, c, r, rfl, f3, f4, f5⟩
      have e1 : many digitC (c :: (r ++ u)) = (c :: r).length := by
        rw [show c :: (r ++ u) = (c :: r) ++ u from rfl, many_app hu digit32, many_all _ hall]
      have e1' : many digitC (c :: r) = (c :: r).length := many_all _ hall
      have e2 : many insideC (c :: (r ++ u)) = (c :: r).length := by
        rw [show c :: (r ++ u) = (c :: r) ++ u from rfl, many_app hu inside32, many_all _ (fun x hx => (digit_facts x (hall x hx)).2.2.2.2.2.2.1)]
      have e3 : (c :: (r ++ u)).take (c :: r).length = c :: r := by
        rw [show c :: (r ++ u) = (c :: r) ++ u from rfl, List.take_left]
      have hL : localL (c :: r) = false := by
        unfold localL
        rw [e1']
        simp
      have hx : ¬ (2 < (c :: (r ++ u)).length ∧ (c :: (r ++ u)).take 2 = [48, 120]) := by
        rintro ⟨g1, g2⟩
        cases r with
        | nil =>
          rcases hu with rfl | ⟨t, rfl⟩
          · simp at g1
          · simp at g2
        | cons d r =>
          have : d = 120 := by
            simp at g2
            exact g2.2
          exact (digit_facts d (hall d (by simp))).2.2.2.2.2.2.2.1 this
      have hN : numL (c :: (r ++ u)) = ((m : Int), (c :: r).length) := by
        unfold numL
        rw [if_neg hx, e1, if_neg (by simp only [List.length_cons] at hlen ⊢; omega), e3, hval]
      rw [List.cons_append]
      unfold nextL
      simp only []
      rw [if_neg (by simp [f1]), if_neg f2, if_neg (by simp [f6]), e2, e3, if_neg (by simp [hL]), hN, if_neg (by simp)]
    · rw [text_hex rfl h2] at hm ⊢
      simp only [decide_eq_true_eq] at hm ⊢
      subst hm
      have hv := hexPad_val 16 (ofI64 n)
      rw [Nat.mod_eq_of_lt (ofI64_lt n)] at hv
      have hl := hexPad_len 16 (ofI64 n)
      have hi : ∀ c ∈ hexPad 16 (ofI64 n), insideC c = true := hexPad_all (fun m hm => (hexDig_facts m hm).1) _ _
      have hh : ∀ c ∈ hexPad 16 (ofI64 n), hexC c = true := hexPad_all (fun m hm => (hexDig_facts m hm).2.1) _ _
      generalize hexPad 16 (ofI64 n) = w at hv hl hi hh
      refine ⟨?_, 48, 120 :: w, rfl, by decide, by decide, by decide⟩
      have hia : ∀ c ∈ (48 :: 120 :: w : List UInt8), insideC c = true := by
        intro c hc
        rcases List.mem_cons.1 hc with rfl | hc
        · decide
        · rcases List.mem_cons.1 hc with rfl | hc
          · decide
          · exact hi c hc
      have e2 : many insideC (48 :: 120 :: (w ++ u)) = 18 := by
        rw [show 48 :: 120 :: (w ++ u) = (48 :: 120 :: w) ++ u from rfl, many_app hu inside32, many_all _ hia]
        simp [hl]
      have e3 : (48 :: 120 :: (w ++ u)).take 18 = 48 :: 120 :: w := by
        rw [show 48 :: 120 :: (w ++ u) = (48 :: 120 :: w) ++ u from rfl, List.take_left' (by simp [hl])]
      have e5 : many hexC (w ++ u) = 16 := by rw [many_app hu hex32, many_all _ hh, hl]
      have hL : localL (48 :: 120 :: w) = false := by
        have : many digitC (48 :: 120 :: w) = 1 := rfl
        unfold localL
        rw [this]
        simp [hl]
      have hN : numL (48 :: 120 :: (w ++ u)) = (n, 18) := by
        unfold numL
        rw [if_pos ⟨by simp; omega, rfl⟩]
        show (if many hexC (w ++ u) = 0 ∨ 16 < many hexC (w ++ u) then _ else (toI64 (hexNat ((w ++ u).take (many hexC (w ++ u)))), many hexC (w ++ u) + 2)) = _
        rw [e5, if_neg (by decide), List.take_left' hl, hv, toI64_ofI64 hn.1 hn.2]
      show nextL (48 :: 120 :: (w ++ u)) = (_, ([48, 120] ++ w).length)
      have hlen : ([48, 120] ++ w).length = 18 := by simp [hl]
      unfold nextL
      simp only []
      rw [if_neg (by decide), if_neg (by decide), if_neg (by decide), e2, e3, if_neg (by simp [hL]), hN, if_neg (by simp), hlen]
  · have e : textL ⟨k, t, n⟩ = ([], false) := by unfold textL; simp [k1, k2, k3, k4]
    rw [e] at hm
    cases hm
/-- What is read may be. -/
theorem next_may {l : List UInt8} (hl : l.length ≤ 256) (h : (nextL l).2 ≠ 0) : mayL (nextL l).1 = true ∧ numOk (nextL l).1 := by
  cases l with
  | nil => exact absurd rfl h
  | cons c r =>
    unfold nextL at h ⊢
    simp only [] at h ⊢
    by_cases h1 : markC c
    · rw [if_pos h1]
      refine ⟨?_, by simp [numOk]⟩
      simp [mayL, textL, h1]
    rw [if_neg h1] at h ⊢
    by_cases h2 : c = 34
    · rw [if_pos h2] at h ⊢
      by_cases h3 : (quotedL r 0 []).2 = 0
      · rw [if_pos h3] at h
        exact absurd rfl h
      rw [if_neg h3] at h ⊢
      refine ⟨?_, by simp [numOk]⟩
      have hb := quoted_bound r 0 [] h3
      have ht := quoted_tell r 0 [] (by simp)
      obtain ⟨z, hz⟩ := shown_some (quotedL r 0 []).1 [34] ht
      simp only [List.length_cons, List.length_nil] at hl hb
      simp only [mayL, textL]
      rw [if_neg (by decide), if_neg (by decide), if_pos (by trivial), hz]
      simp
      omega
    rw [if_neg h2] at h ⊢
    by_cases h3 : startC c
    · rw [if_pos h3] at h ⊢
      by_cases h4 : nameL ((c :: r).take (1 + many insideC r))
      · rw [if_pos h4]
        exact ⟨by simp [mayL, textL, h4], by simp [numOk]⟩
      · rw [if_neg h4] at h
        exact absurd rfl h
    rw [if_neg h3] at h ⊢
    by_cases h4 : localL ((c :: r).take (many insideC (c :: r)))
    · rw [if_pos h4]
      exact ⟨by simp [mayL, textL, h4], by simp [numOk]⟩
    rw [if_neg h4] at h ⊢
    by_cases h5 : (numL (c :: r)).2 = 0 ∨ (numL (c :: r)).2 ≠ many insideC (c :: r)
    · rw [if_pos h5] at h
      exact absurd rfl h
    · rw [if_neg h5]
      refine ⟨?_, num_range _⟩
      simp only [mayL, textL]
      rw [if_neg (by decide), if_neg (by decide), if_neg (by decide), if_pos (by trivial)]
      split <;> simp
theorem toks_may : ∀ (k : Nat) (l : List UInt8) (out x : List Tok), l.length ≤ 256 → (∀ t ∈ out, mayL t = true ∧ numOk t) → out.length ≤ 64 → toksL k l out = (x, 0) → (∀ t ∈ x, mayL t = true ∧ numOk t) ∧ x.length ≤ 64
  | 0, l, out, x, _, ho, hn, h => by
    rw [toksL] at h
    rw [← (Prod.mk.inj h).1]
    exact ⟨ho, hn⟩
  | k + 1, [], out, x, _, ho, hn, h => by
    rw [toksL] at h
    rw [← (Prod.mk.inj h).1]
    exact ⟨ho, hn⟩
  | k + 1, c :: r, out, x, hl, ho, hn, h => by
    rw [toksL] at h
    split at h
    · exact toks_may k r out x (by simp at hl; omega) ho hn h
    · split at h
      · rw [← (Prod.mk.inj h).1]
        exact ⟨ho, hn⟩
      · split at h
        · exact absurd (Prod.mk.inj h).2 (by decide)
        · rename_i h3
          split at h
          · exact absurd (Prod.mk.inj h).2 (by decide)
          · rename_i h4
            refine toks_may k _ _ x (by rw [List.length_drop]; omega) (fun t ht => ?_) (by rw [List.length_append, List.length_singleton]; omega) h
            rcases List.mem_append.1 ht with ht | ht
            · exact ho t ht
            · obtain rfl := List.mem_singleton.1 ht
              exact next_may hl h3
theorem toks_join : ∀ (l out : List Tok), out.length + l.length ≤ 64 → (∀ t ∈ l, mayL t = true ∧ numOk t) → ∀ K, (joinL (l.map fun x => (textL x).1)).length ≤ K → toksL K (joinL (l.map fun x => (textL x).1)) out = (out ++ l, 0)
  | [], out, _, _, K, _ => by
    show toksL K [] out = _
    cases K <;> simp [toksL]
  | [x], out, hn, hm, K, hK => by
    obtain ⟨hx, c, r, hc, n1, n2, n3⟩ := next_text (u := []) (hm x (by simp)).1 (hm x (by simp)).2 (.inl rfl)
    rw [List.append_nil] at hx
    show toksL K (textL x).1 out = _
    change (textL x).1.length ≤ K at hK
    rw [hc] at hK hx ⊢
    simp only [List.length_cons] at hK hn
    obtain ⟨K, rfl⟩ : ∃ m, K = m + 1 := ⟨K - 1, by omega⟩
    rw [toksL, if_neg (by simp [n1, n2]), if_neg n3, hx, if_neg (by simp), if_neg (by simp at hn; omega)]
    show toksL K ((c :: r).drop (c :: r).length) _ = _
    rw [List.drop_length]
    cases K <;> simp [toksL]
  | x :: y :: l, out, hn, hm, K, hK => by
    obtain ⟨hx, c, r, hc, n1, n2, n3⟩ := next_text (u := 32 :: joinL ((y :: l).map fun x => (textL x).1)) (hm x (by simp)).1 (hm x (by simp)).2 (.inr ⟨_, rfl⟩)
    have e : joinL ((x :: y :: l).map fun x => (textL x).1) = (textL x).1 ++ 32 :: joinL ((y :: l).map fun x => (textL x).1) := rfl
    rw [e] at hK ⊢
    have ih := toks_join (y :: l) (out ++ [x]) (by simp only [List.length_append, List.length_cons, List.length_nil] at hn ⊢; omega) (fun t ht => hm t (by simp [List.mem_cons.1 ht]))
    generalize joinL ((y :: l).map fun x => (textL x).1) = J at hK hx ih ⊢
    rw [hc] at hK hx ⊢
    simp only [List.length_append, List.length_cons, List.cons_append] at hK hn hx ⊢
    obtain ⟨K, rfl⟩ : ∃ m, K = m + 1 := ⟨K - 1, by omega⟩
    rw [toksL, if_neg (by simp [n1, n2]), if_neg n3, hx, if_neg (by simp), if_neg (by omega)]
    show toksL K ((c :: (r ++ 32 :: J)).drop (r.length + 1)) _ = _
    rw [List.drop_succ_cons, List.drop_left]
    obtain ⟨K, rfl⟩ : ∃ m, K = m + 1 := ⟨K - 1, by omega⟩
    rw [toksL, if_pos (.inl rfl), ih K (by omega)]
    simp
/-- What is written is read back. -/
theorem tokens_write {l : List Tok} {s : List UInt8} (h : writeL l = (s, 0)) (hn : ∀ t ∈ l, numOk t) : tokensL s = (l, 0) := by
  unfold writeL at h
  split at h
  · exact absurd (Prod.mk.inj h).2 (by decide)
  · rename_i h1
    split at h
    · exact absurd (Prod.mk.inj h).2 (by decide)
    · rename_i h2
      split at h
      · exact absurd (Prod.mk.inj h).2 (by decide)
      · rename_i h3
        rw [← (Prod.mk.inj h).1]
        unfold tokensL
        rw [if_neg h3, toks_join l [] (by simp; omega) (fun t ht => ⟨?_, hn t ht⟩) _ (Nat.le_refl _)]
        · simp
        · exact List.all_eq_true.1 (by simpa using h2) t ht
theorem write_err {l : List Tok} (h : (writeL l).2 ≠ 0) : (writeL l).1 = [] := by
  unfold writeL at h ⊢
  split
  · rfl
  · split
    · rfl
    · split
      · rfl
      · rename_i h1 h2 h3
        rw [if_neg h1, if_neg h2, if_neg h3] at h
        exact absurd rfl h
theorem tokens_err {l : List UInt8} (h : (tokensL l).2 ≠ 0) : (tokensL l).1 = [] := by
  have : ∀ (k : Nat) (l : List UInt8) (out : List Tok), (toksL k l out).2 ≠ 0 → (toksL k l out).1 = [] := by
    intro k
    induction k with
    | zero => intro l out h; exact absurd rfl h
    | succ k ih =>
      intro l out
      cases l with
      | nil => intro h; exact absurd rfl h
      | cons c r =>
        rw [toksL]
        split
        · exact ih _ _
        · split
          · intro h; exact absurd rfl h
          · split
            · intro _; rfl
            · split
              · intro _; rfl
              · exact ih _ _
  unfold tokensL at h ⊢
  split
  · rfl
  · rename_i h1
    rw [if_neg h1] at h
    exact this _ _ _ h
/-- What is read may be; written where there is room, it is read as the same. -/
theorem tokens_may {s : List UInt8} {l : List Tok} (h : tokensL s = (l, 0)) : (∀ t ∈ l, mayL t = true ∧ numOk t) ∧ l.length ≤ 64 := by
  unfold tokensL at h
  split at h
  · exact absurd (Prod.mk.inj h).2 (by decide)
  · exact toks_may _ s [] l (by omega) (by simp) (by simp) h
theorem write_tokens {s : List UInt8} {l : List Tok} (h : tokensL s = (l, 0)) : (writeL l).2 = 0 ∨ (writeL l).2 = 3 := by
  obtain ⟨h1, h2⟩ := tokens_may h
  unfold writeL
  rw [if_neg (by omega), if_neg (by simp only [Bool.not_eq_false]; exact List.all_eq_true.2 fun t ht => (h1 t ht).1)]
  split
  · exact .inr rfl
  · exact .inl rfl
/-- Two lines, the first without a remark: read together. -/
theorem tokens_parts {a b : List UInt8} {x y : List Tok} (ha : tokensL a = (x, 0)) (hb : tokensL b = (y, 0)) (hn : (35 : UInt8) ∉ a) (hl : a.length + b.length + 1 ≤ 256) :
    tokensL (a ++ 32 :: b) = if x.length + y.length ≤ 64 then (x ++ y, 0) else ([], 4) := by
  have hx := (tokens_may ha).2
  have hlen : (a ++ 32 :: b).length = a.length + b.length + 1 := by simp; omega
  unfold tokensL at ha hb ⊢
  rw [if_neg (by omega)] at ha hb
  rw [if_neg (by omega), (toks_app b a.length a [] x (Nat.le_refl _) ha).1 hn _ (Nat.le_refl _)]
  rw [toks_fuel _ b.length _ _ (by omega) (Nat.le_refl _)]
  obtain ⟨z, hy, hz⟩ := toks_ahead b.length b [] y hb
  rw [hz x hx, hy]
  simp
/-- Blanks ahead, behind, and a remark. -/
theorem tokens_blanks {a : List UInt8} {x : List Tok} (rem : List UInt8) (ha : tokensL a = (x, 0)) (hl : (32 :: 9 :: (a ++ 32 :: 9 :: 35 :: rem)).length ≤ 256) :
    tokensL (32 :: 9 :: (a ++ 32 :: 9 :: 35 :: rem)) = (x, 0) := by
  unfold tokensL at ha ⊢
  simp only [List.length_cons, List.length_append] at hl
  rw [if_neg (by omega)] at ha
  rw [if_neg (by simp only [List.length_cons, List.length_append]; omega)]
  have e : ∀ K, toksL (K + 2) (32 :: 9 :: (a ++ 32 :: 9 :: 35 :: rem)) [] = toksL K (a ++ 32 :: 9 :: 35 :: rem) [] := fun K => by
    rw [toksL, if_pos (.inl rfl), toksL, if_pos (.inr rfl)]
  show toksL ((a ++ 32 :: 9 :: 35 :: rem).length + 1 + 1) _ _ = _
  rw [e]
  rcases (toks_app (9 :: 35 :: rem) a.length a [] x (Nat.le_refl _) ha).2 with h | h
  · exact h _ (Nat.le_refl _)
  · rw [h _ (Nat.le_refl _), show (a ++ 32 :: 9 :: 35 :: rem).length = (a.length + rem.length + 1) + 2 by simp; omega, toksL, if_pos (.inr rfl), toksL, if_neg (by decide), if_pos rfl]
end Go.Proofs.YtgihgmniijhfoaaDoor.Lex
