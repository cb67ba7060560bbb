/- What is told of expressions is read back, and hangs on what it stands on alone: plain Lean, no program in sight. -/
import Derived.Test.YtgihgmniijhfoaaDoorZExprSpec
namespace Go.Proofs.YtgihgmniijhfoaaDoor.Ex
open Go.Proofs.YtgihgmniijhfoaaDoor.Lex
set_option linter.unusedSimpArgs false
set_option linter.unusedVariables false
def bodyX (x : X) : List Tok :=
  (if x.s ≠ [] then [⟨1, x.s, 0⟩] else []) ++ (if x.l ≠ [] then [mk 45, ⟨1, x.l, 0⟩] else []) ++ (if x.n ≠ 0 ∨ x.s = [] then (if x.s ≠ [] then [mk 43] else []) ++ [⟨2, [], x.n⟩] else [])
theorem toks_body (x : X) : toksX x = (if 0 < x.m then [⟨1, modName x.m, 0⟩, mk 40] else []) ++ bodyX x ++ (if 0 < x.m then [mk 41] else []) := by
  unfold toksX bodyX
  simp only [List.append_assoc]
theorem word_head {s : List UInt8} (h : wordL s = true) : ¬ s.getD 0 0 = 37 := by
  unfold wordL at h
  simp only [Bool.and_eq_true, Bool.not_eq_true', beq_eq_false_iff_ne] at h
  exact h.2
theorem word_may {s : List UInt8} (h : wordL s = true) : (nameL s || localL s) = true := by
  unfold wordL at h
  simp only [Bool.and_eq_true] at h
  exact h.1
theorem check_parts {x : X} (h : checkL x = true) : (x.s = [] ∨ wordL x.s = true) ∧ (x.l = [] ∨ (x.s ≠ [] ∧ wordL x.l = true)) ∧ x.m ≤ 4 := by
  unfold checkL at h
  simp only [Bool.and_eq_true, Bool.or_eq_true, decide_eq_true_eq] at h
  exact ⟨h.1.1, h.1.2, h.2⟩
theorem sum_body {x : X} (h : checkL x = true) (hn : numX x) {v : List Tok} (hv : Good v) : sumR (bodyX x ++ v) { x0 with m := x.m } = some (v, x) := by
  obtain ⟨hs, hl, hm⟩ := check_parts h
  obtain ⟨s, l, n, m⟩ := x
  have hw : w64 (0 + n) = n := by rw [Int.zero_add]; exact w64_id hn
  simp only [numX] at *
  by_cases c : s = []
  · subst c
    have e : l = [] := by
      rcases hl with h | h
      · exact h
      · exact absurd rfl h.1
    subst e
    simp [bodyX, sumR, tailOf, first, mk, termT, x0, loop_good hv]
    simpa using hw
  · have ws : wordL s = true := hs.resolve_left c
    by_cases d : l = []
    · subst d
      by_cases z : n = 0
      · subst z
        simp [bodyX, sumR, tailOf, first, mk, termT, x0, loop_good hv, c, ws]
      · simp [bodyX, sumR, tailOf, first, mk, termT, x0, loop_good hv, c, ws, z, loopR, startsT]
        simpa using hw
    · have wl : wordL l = true := (hl.resolve_left d).2
      by_cases z : n = 0
      · subst z
        simp [bodyX, sumR, tailOf, first, mk, termT, x0, loop_good hv, c, ws, d, wl, loopR, startsT]
      · simp [bodyX, sumR, tailOf, first, mk, termT, x0, loop_good hv, c, ws, d, wl, z, loopR, startsT]
        simpa using hw
theorem body_head {x : X} (h : checkL x = true) : ∃ t r, bodyX x = t :: r ∧ ¬ (t.k = 1 ∧ t.t.getD 0 0 = 37) := by
  obtain ⟨hs, hl, hm⟩ := check_parts h
  obtain ⟨s, l, n, m⟩ := x
  by_cases c : s = []
  · subst c
    have e : l = [] := by
      rcases hl with h | h
      · exact h
      · exact absurd rfl h.1
    subst e
    exact ⟨⟨2, [], n⟩, [], by simp [bodyX], by simp⟩
  · have ws : wordL s = true := hs.resolve_left c
    refine ⟨⟨1, s, 0⟩, _, by simp only [bodyX]; rw [if_pos c]; rfl, fun e => word_head ws e.2⟩
theorem mod_back : ∀ m, 0 < m → m ≤ 4 → modL (modName m) = m ∧ (modName m).getD 0 0 = 37 ∧ nameL (modName m) = true := by
  intro m h0 h4
  have : m = 1 ∨ m = 2 ∨ m = 3 ∨ m = 4 := by omega
  rcases this with rfl | rfl | rfl | rfl <;> decide
theorem parse_toks {x : X} (h : checkL x = true) (hn : numX x) {u : List Tok} (hu : Good u) : parseR (toksX x ++ u) = some (u, x) := by
  rw [toks_body]
  obtain ⟨hs, hl, hm⟩ := check_parts h
  by_cases h0 : 0 < x.m
  · obtain ⟨a, b, c⟩ := mod_back x.m h0 hm
    rw [if_pos h0, if_pos h0]
    simp only [List.cons_append, List.nil_append, List.append_assoc, parseR]
    rw [if_pos ⟨trivial, b⟩, a, if_neg (by omega), if_pos trivial, sum_body h hn (v := mk 41 :: u) ⟨rfl, rfl⟩]
    simp only
    rw [if_pos trivial]
  · have hz : x.m = 0 := by omega
    rw [if_neg h0, if_neg h0, List.nil_append, List.append_nil]
    obtain ⟨t, r, e, hp⟩ := body_head h
    have hb := sum_body h hn hu
    rw [e, hz] at hb
    rw [e, List.cons_append]
    simp only [parseR]
    rw [if_neg hp]
    exact hb
theorem toks_may {x : X} (h : checkL x = true) (hn : numX x) : ∀ t ∈ toksX x, mayL t = true ∧ numOk t := by
  obtain ⟨hs, hl, hm⟩ := check_parts h
  have z : -9223372036854775808 ≤ (0 : Int) ∧ (0 : Int) < 9223372036854775808 := by omega
  have mark : ∀ c, markC c = true → mayL (mk c) = true ∧ numOk (mk c) := fun c hc => ⟨by simp [mayL, textL, mk, hc], z⟩
  have word : ∀ s, (nameL s || localL s) = true → mayL ⟨1, s, 0⟩ = true ∧ numOk ⟨1, s, 0⟩ := fun s hc => ⟨by simp only [mayL, textL]; rw [if_pos trivial]; simpa using hc, z⟩
  intro t ht
  unfold toksX at ht
  simp only [List.mem_append] at ht
  rcases ht with (((ht | ht) | ht) | ht) | ht
  · split at ht
    · rename_i h0
      obtain ⟨a, b, c⟩ := mod_back x.m h0 hm
      simp only [List.mem_cons, List.not_mem_nil, or_false] at ht
      rcases ht with rfl | rfl
      · exact word _ (by rw [c]; rfl)
      · exact mark 40 (by decide)
    · cases ht
  · split at ht
    · rename_i h0
      simp only [List.mem_cons, List.not_mem_nil, or_false] at ht
      subst ht
      exact word _ (word_may (hs.resolve_left h0))
    · cases ht
  · split at ht
    · rename_i h0
      simp only [List.mem_cons, List.not_mem_nil, or_false] at ht
      rcases ht with rfl | rfl
      · exact mark 45 (by decide)
      · exact word _ (word_may (hl.resolve_left h0).2)
    · cases ht
  · split at ht
    · simp only [List.mem_append] at ht
      rcases ht with ht | ht
      · split at ht
        · simp only [List.mem_cons, List.not_mem_nil, or_false] at ht
          subst ht
          exact mark 43 (by decide)
        · cases ht
      · simp only [List.mem_cons, List.not_mem_nil, or_false] at ht
        subst ht
        refine ⟨?_, hn⟩
        simp only [mayL, textL]
        rw [if_neg (by decide), if_neg (by decide), if_neg (by decide), if_pos trivial]
        split <;> rfl
    · cases ht
  · split at ht
    · simp only [List.mem_cons, List.not_mem_nil, or_false] at ht
      subst ht
      exact mark 41 (by decide)
    · cases ht
/-- What is told is read back. -/
theorem parse_back {x : X} (h : checkL x = true) (hn : numX x) {u : List Tok} (hu : Good u) (hm : u.all mayL = true) : parseL (toksX x ++ u) 0 = (x, (toksX x).length, 0) := by
  unfold parseL
  have ha : (toksX x ++ u).all mayL = true := by
    rw [List.all_append, hm, Bool.and_true, List.all_eq_true]
    exact fun t ht => (toks_may h hn t ht).1
  rw [if_neg (by rw [ha]; simp), if_neg (by omega)]
  rw [show (0 : Int).toNat = 0 from rfl, List.drop_zero, parse_toks h hn hu]
  simp only [List.length_append]
  rw [Nat.add_sub_cancel]
theorem good_nil : Good [] := ⟨rfl, rfl⟩
/-- What is read hangs on what it stands on alone. -/
theorem parse_only {l : List Tok} {a : Int} {y : X} {n : Nat} (h : parseL l a = (y, n, 0)) :
    0 ≤ a ∧ a.toNat < n ∧ n ≤ l.length ∧ checkL y = true ∧ numX y ∧ parseL (l.take n) a = (y, n, 0) ∧ parseL (toksX y) 0 = (y, (toksX y).length, 0) := by
  unfold parseL at h
  by_cases hall : l.all mayL = false
  · rw [if_pos hall] at h; simp at h
  rw [if_neg hall] at h
  by_cases hr : a < 0 ∨ (l.length : Int) < a
  · rw [if_pos hr] at h; simp at h
  rw [if_neg hr] at h
  cases hp : parseR (l.drop a.toNat) with
  | none => rw [hp] at h; simp at h
  | some p =>
    obtain ⟨r, z⟩ := p
    rw [hp] at h
    simp only [Prod.mk.injEq, and_true] at h
    obtain ⟨rfl, rfl⟩ := h
    obtain ⟨hc, hn, used, hne, e, hu⟩ := parse_law hp
    have hlen := congrArg List.length e
    rw [List.length_drop, List.length_append] at hlen
    have hpos : 0 < used.length := List.length_pos_iff.2 hne
    have hb := parse_back hc hn good_nil rfl
    rw [List.append_nil] at hb
    refine ⟨by omega, by omega, by omega, hc, hn, ?_, hb⟩
    have hall' : (l.take (l.length - r.length)).all mayL = true := by
      rw [List.all_eq_true]
      have : l.all mayL = true := by simpa using hall
      exact fun t ht => List.all_eq_true.1 this t (List.mem_of_mem_take ht)
    have htake : (l.take (l.length - r.length)).drop a.toNat = used := by
      rw [List.drop_take, e, show l.length - r.length - a.toNat = used.length by omega, List.take_left']
      rfl
    unfold parseL
    rw [if_neg (by rw [hall']; simp), if_neg (by rw [List.length_take]; omega), htake]
    have hu0 := hu [] good_nil
    rw [List.append_nil] at hu0
    rw [hu0]
    simp only [List.length_take, List.length_nil]
    rw [Nat.sub_zero, Nat.min_eq_left (by omega)]
theorem parse_err {l : List Tok} {a : Int} (h : (parseL l a).2.2 ≠ 0) : (parseL l a).1 = x0 ∧ (parseL l a).2.1 = 0 := by
  unfold parseL at h ⊢
  split
  · exact ⟨rfl, rfl⟩
  split
  · exact ⟨rfl, rfl⟩
  split
  · exact ⟨rfl, rfl⟩
  · simp_all
end Go.Proofs.YtgihgmniijhfoaaDoor.Ex
