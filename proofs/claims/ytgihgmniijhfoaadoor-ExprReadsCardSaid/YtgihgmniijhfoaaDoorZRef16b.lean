/- What the document's own way through an expression computes. -/
import Derived.Test.YtgihgmniijhfoaaDoorPx18
import Derived.Test.YtgihgmniijhfoaaDoorPx17
import Derived.Test.YtgihgmniijhfoaaDoorPx16
import Derived.Test.YtgihgmniijhfoaaDoorPx6
import Derived.Test.YtgihgmniijhfoaaDoorZRef15
import Derived.Test.YtgihgmniijhfoaaDoorZE
namespace Go.Proofs.YtgihgmniijhfoaaDoor.ZR
open Go.RowKit Go.Proofs.YtgihgmniijhfoaaDoor.P Go.Proofs.YtgihgmniijhfoaaDoor.P.ZT Go.Proofs.YtgihgmniijhfoaaDoor.Ex Go.Proofs.YtgihgmniijhfoaaDoorW.PrintWords Go.Proofs.YtgihgmniijhfoaaDoorW.PrintLast Go.Proofs.YtgihgmniijhfoaaDoorW.PrintMore Go.Proofs.YtgihgmniijhfoaaDoor.Lex
set_option linter.unusedVariables false
set_option linter.unusedSimpArgs false
theorem tl2 (l : List UInt8) : (⟨l.toArray⟩ : ByteArray).toList = l := by rw [ByteArray.toList_eq]
theorem rword2 (s : ByteArray) (hs : s.size ≤ 1000000) (k : Nat) (hk : 1000100 ≤ k) : quoinref16_Word.f k s = some (wordL s.data.toList) := by
  unfold quoinref16_Word.f
  rw [rname_f s (by omega) k (by omega), rlocal_f s (by omega) k (by omega)]
  simp only [Option.bind_some]
  have hd : ∀ h : 0 < s.size, ((bt s 0) != 37) = !(s.data.toList.getD 0 0 == 37) := by
    intro h
    rw [show bt s 0 = (s[0].toNat : Int) from bt_lt s 0 h, pct, head_at s h]
  have hpos : (nameL s.data.toList || localL s.data.toList) = true → 0 < s.size := by
    intro h
    have : s.data.toList ≠ [] := by
      intro e
      rw [e] at h
      exact absurd h (by decide)
    rw [← size_data]
    exact List.length_pos_iff.2 this
  unfold wordL
  cases hn : nameL s.data.toList with
  | true =>
    have h := hpos (by rw [hn]; rfl)
    rw [if_pos rfl, if_pos (by omega), hd h]
    rfl
  | false =>
    rw [if_neg (by simp)]
    cases hl : localL s.data.toList with
    | true =>
      have h := hpos (by rw [hl]; simp)
      rw [if_pos rfl, if_pos (by omega), hd h]
      rfl
    | false => rfl
/-- Tokens that may be. -/
structure okM (l : List S41) : Prop where
  len : l.length ≤ 200
  ok : ∀ x ∈ l, 0 ≤ x.f0 ∧ x.f1.size ≤ 1000000 ∧ numOk (toTok x)
  may : ∀ x ∈ l, mayL (toTok x) = true
theorem mark_zero {t : Tok} (h : mayL t = true) (k : t.k = 4) : t.n = 0 := by
  unfold mayL textL at h
  rw [if_neg (by omega), if_pos k] at h
  simp only [Bool.and_eq_true, decide_eq_true_eq] at h
  exact h.1.1
theorem ris_f (l : List S41) (ok : okM l) (a : Nat) (c : UInt8) : quoinref16_Is.f l (a : Int) ⟨#[c]⟩ = some (first ((l.map toTok).drop a) c) := by
  unfold quoinref16_Is.f
  by_cases h : a < l.length
  · rw [if_pos (by omega), if_pos (by omega), rd_at l a h, drop_cons l a h]
    have hx := ok.ok l[a] (List.getElem_mem h)
    have hm := ok.may l[a] (List.getElem_mem h)
    unfold first
    simp only
    by_cases c4 : l[a].f0 = 4
    · rw [if_pos c4]
      have hz := mark_zero hm (by simp only [toTok]; omega)
      have hz' : l[a].f2 = 0 := hz
      congr 1
      rw [show (⟨#[c]⟩ : ByteArray).toList = [c] by rw [ByteArray.toList_eq], ByteArray.toList_eq]
      by_cases e : l[a].f1.data.toList = [c]
      · rw [e, decide_eq_true]
        · simp
        · simp only [toTok, mk, Tok.mk.injEq]
          exact ⟨by omega, e, hz'⟩
      · rw [decide_eq_false]
        · simp [e]
        · intro h
          exact e (congrArg Tok.t h)
    · rw [if_neg c4, decide_eq_false]
      intro h
      have := congrArg Tok.k h
      simp only [toTok, mk] at this
      omega
  · rw [if_neg (by omega), drop_none l a h]
    rfl
def startsR (r : List Tok) : Bool := match r with | [] => false | t :: _ => startsT t
theorem rterm_f (l : List S41) (ok : okM l) (a : Nat) (k : Nat) (hk : 1000100 ≤ k) : quoinref16_term.f k l (a : Int) = some (startsR ((l.map toTok).drop a)) := by
  unfold quoinref16_term.f
  by_cases h : a < l.length
  · have hx := ok.ok l[a] (List.getElem_mem h)
    have w := rword2 l[a].f1 hx.2.1 k hk
    rw [if_pos (by omega), if_pos (by omega), rd_at l a h, drop_cons l a h, w]
    have k2 : ((toTok l[a]).k = 2) ↔ l[a].f0 = 2 := by simp only [toTok]; omega
    have k1 : ((toTok l[a]).k = 1) ↔ l[a].f0 = 1 := by simp only [toTok]; omega
    have key : startsR (toTok l[a] :: (l.map toTok).drop (a + 1)) = (decide (l[a].f0 = 2) || decide (l[a].f0 = 1) && wordL l[a].f1.data.toList) := by
      show startsT (toTok l[a]) = _
      unfold startsT
      rw [decide_eq_decide.2 k2, decide_eq_decide.2 k1]
      rfl
    rw [key]
    simp only [Option.bind_some]
    by_cases c2 : l[a].f0 = 2
    · simp [c2]
    · by_cases c1 : l[a].f0 = 1
      · simp [c1]
      · simp [c1, c2]
  · rw [if_neg (by omega), drop_none l a h]
    rfl
abbrev Sum := ByteArray × ByteArray × Int × Int × Int
/-- What the way through a sum answers at its end. -/
def ansQ (len : Nat) (v : List Tok × X × Nat × Nat) : Sum := (⟨v.2.1.s.toArray⟩, ⟨v.2.1.l.toArray⟩, v.2.1.n, (v.2.1.m : Int), if v.2.2.1 > 1 ∨ v.2.2.2 > 1 ∨ v.2.2.2 > v.2.2.1 then -1 else ((len - v.1.length : Nat) : Int))
theorem end_is (a p q : Nat) (x : X) (len : Nat) (r : List Tok) (h : len - r.length = a) :
    (if (p : Int) > 1 then (some ((⟨x.s.toArray⟩ : ByteArray), (⟨x.l.toArray⟩ : ByteArray), x.n, (x.m : Int), (-1 : Int))) else (if (q : Int) > 1 then (some ((⟨x.s.toArray⟩ : ByteArray), (⟨x.l.toArray⟩ : ByteArray), x.n, (x.m : Int), (-1 : Int))) else (if (q : Int) > (p : Int) then (some ((⟨x.s.toArray⟩ : ByteArray), (⟨x.l.toArray⟩ : ByteArray), x.n, (x.m : Int), (-1 : Int))) else (some ((⟨x.s.toArray⟩ : ByteArray), (⟨x.l.toArray⟩ : ByteArray), x.n, (x.m : Int), (a : Int)))))) = some (ansQ len (r, x, p, q)) := by
  unfold ansQ
  simp only
  by_cases c1 : p > 1
  · rw [if_pos (by omega), if_pos (.inl c1)]
  rw [if_neg (by omega)]
  by_cases c2 : q > 1
  · rw [if_pos (by omega), if_pos (.inr (.inl c2))]
  rw [if_neg (by omega)]
  by_cases c3 : q > p
  · rw [if_pos (by omega), if_pos (.inr (.inr c3))]
  rw [if_neg (by omega), if_neg (by omega), h]
theorem w64r (n : Int) : wrap64 n = w64 n := by unfold wrap64 w64; omega
theorem wup {i : Nat} (h : i < 1000) : wrap64 ((i : Int) + 1) = ((i + 1 : Nat) : Int) := by unfold wrap64; omega
/-- One term. -/
theorem sum_j3 (l : List S41) (ok : okM l) (a p q i : Nat) (b : Bool) (x : X) (k : Nat) (hk : 1000100 ≤ k) (ha : a < l.length) (hp : p ≤ 200) (hq : q ≤ 200) (hi : i ≤ 200) (hs : startsT (toTok l[a]) = true) :
    quoinref16_sum.j3 (k + 2) l (a : Int) (p : Int) (q : Int) (i : Int) b ⟨x.s.toArray⟩ ⟨x.l.toArray⟩ x.n (x.m : Int) =
      quoinref16_sum.l0 k l ((a + 1 : Nat) : Int) (((stepQ (toTok l[a]) b x p q).2.1 : Nat) : Int) (((stepQ (toTok l[a]) b x p q).2.2 : Nat) : Int) ((i + 1 : Nat) : Int) ⟨(stepQ (toTok l[a]) b x p q).1.s.toArray⟩ ⟨(stepQ (toTok l[a]) b x p q).1.l.toArray⟩ (stepQ (toTok l[a]) b x p q).1.n ((stepQ (toTok l[a]) b x p q).1.m : Int) := by
  have hl := ok.len
  have hx := ok.ok l[a] (List.getElem_mem ha)
  have k2 : ((toTok l[a]).k = 2) ↔ l[a].f0 = 2 := by simp only [toTok]; omega
  have ht : quoinref16_term.f (k + 1) l (a : Int) = some true := by
    rw [rterm_f l ok a (k + 1) (by omega), drop_cons l a ha]
    exact congrArg some hs
  rw [quoinref16_sum.j3, ht]
  simp only [Option.bind_some]
  rw [if_pos trivial, if_pos (by omega), if_pos (by omega), rd_at l a ha, wup (i := a) (by omega)]
  unfold stepQ
  by_cases c2 : l[a].f0 = 2
  · rw [if_pos c2, if_pos (k2.2 c2), quoinref16_sum.j4, wup (i := i) (by omega)]
    cases b with
    | true =>
      rw [if_pos rfl, if_pos rfl, w64r]
      rfl
    | false =>
      rw [if_neg (by simp), if_pos c2, if_neg (by simp), w64r]
      rfl
  · rw [if_neg c2, if_neg (fun h => c2 (k2.1 h)), quoinref16_sum.j4, wup (i := i) (by omega), if_neg (by simp), if_neg c2]
    cases b with
    | true =>
      rw [if_pos rfl, if_pos rfl, wup (i := q) (by omega), show (⟨(toTok l[a]).t.toArray⟩ : ByteArray) = l[a].f1 from arr_back l[a].f1]
    | false =>
      rw [if_neg (by simp), if_neg (by simp), wup (i := p) (by omega), show (⟨(toTok l[a]).t.toArray⟩ : ByteArray) = l[a].f1 from arr_back l[a].f1]
theorem sum_loop (l : List S41) (ok : okM l) : ∀ (d a p q i k : Nat) (x : X), l.length - a ≤ d → 1000200 + 5 * d ≤ k → a ≤ l.length → 0 < i → i ≤ a → p ≤ i → q ≤ i →
    quoinref16_sum.l0 k l (a : Int) (p : Int) (q : Int) (i : Int) ⟨x.s.toArray⟩ ⟨x.l.toArray⟩ x.n (x.m : Int) = some (ansQ l.length (loopQ ((l.map toTok).drop a) x p q))
  | d, a, p, q, i, 0, x, _, hk, _, _, _, _, _ => by omega
  | d, a, p, q, i, 1, x, _, hk, _, _, _, _, _ => by omega
  | d, a, p, q, i, 2, x, _, hk, _, _, _, _, _ => by omega
  | d, a, p, q, i, 3, x, _, hk, _, _, _, _, _ => by omega
  | d, a, p, q, i, 4, x, _, hk, _, _, _, _, _ => by omega
  | d, a, p, q, i, k + 5, x, hd, hk, ha, hi, hia, hp, hq => by
    have hl := ok.len
    have stay : ∀ r : List Tok, r = (l.map toTok).drop a → loopQ r x p q = (r, x, p, q) → some (ansQ l.length (loopQ r x p q)) = some (ansQ l.length (r, x, p, q)) := fun r _ h => by rw [h]
    have hlen : l.length - ((l.map toTok).drop a).length = a := by rw [List.length_drop, List.length_map]; omega
    rw [quoinref16_sum.l0, if_pos (by omega), ris_f l ok a 45]
    simp only [Option.bind_some]
    have sw : wrap64 ((a : Int) + 1) = ((a + 1 : Nat) : Int) := wup (by omega)
    -- a sign, and a term behind it
    have go : ∀ b : Bool, ∀ t u : Tok, ∀ r : List Tok, (l.map toTok).drop a = t :: u :: r → startsT u = true →
        quoinref16_sum.j1 (k + 4) l (a : Int) (p : Int) (q : Int) (i : Int) b true ⟨x.s.toArray⟩ ⟨x.l.toArray⟩ x.n (x.m : Int) = some (ansQ l.length (loopQ r (stepQ u b x p q).1 (stepQ u b x p q).2.1 (stepQ u b x p q).2.2)) := by
      intro b t u r e hs
      have h1 : a + 1 < l.length := by
        have := congrArg List.length e
        rw [List.length_drop, List.length_map] at this
        simp at this
        omega
      have e2 : (l.map toTok).drop (a + 1) = u :: r := by
        rw [← List.drop_drop, e]
        rfl
      have eu : toTok l[a + 1] = u := by
        rw [drop_cons l (a + 1) h1] at e2
        exact (List.cons.inj e2).1
      have er : (l.map toTok).drop (a + 1 + 1) = r := by
        rw [drop_cons l (a + 1) h1] at e2
        exact (List.cons.inj e2).2
      rw [quoinref16_sum.j1, if_pos (by omega), if_pos rfl, sw, rterm_f l ok (a + 1) (k + 3) (by omega), e2]
      simp only [Option.bind_some, startsR]
      rw [hs, quoinref16_sum.j2, if_neg (by simp), if_pos rfl, sw]
      have h3 := sum_j3 l ok (a + 1) p q i b x k (by omega) h1 (by omega) (by omega) (by omega) (by rw [eu]; exact hs)
      rw [h3, eu, ← er]
      have hst := step_le u b x p q
      cases d with
      | zero => omega
      | succ d => exact sum_loop l ok d (a + 1 + 1) _ _ (i + 1) k _ (by omega) (by omega) (by omega) (by omega) (by omega) (by omega) (by omega)
    -- it ends here
    have fin : ∀ b s : Bool, (s = false ∨ startsR ((l.map toTok).drop (a + 1)) = false) →
        quoinref16_sum.j1 (k + 4) l (a : Int) (p : Int) (q : Int) (i : Int) b s ⟨x.s.toArray⟩ ⟨x.l.toArray⟩ x.n (x.m : Int) = some (ansQ l.length ((l.map toTok).drop a, x, p, q)) := by
      intro b s hs
      rw [quoinref16_sum.j1, if_pos (by omega)]
      cases s with
      | false =>
        rw [if_neg (by simp), quoinref16_sum.j2, if_pos rfl]
        exact end_is a p q x l.length _ hlen
      | true =>
        have h := hs.resolve_left (by simp)
        rw [if_pos rfl, sw, rterm_f l ok (a + 1) (k + 3) (by omega), h]
        simp only [Option.bind_some]
        rw [quoinref16_sum.j2, if_pos (by rfl)]
        exact end_is a p q x l.length _ hlen
    have f0 : ∀ c, first ([] : List Tok) c = false := fun _ => rfl
    have fc : ∀ (t : Tok) (r : List Tok) (c : UInt8), first (t :: r) c = decide (t = mk c) := fun _ _ _ => rfl
    cases hr : (l.map toTok).drop a with
    | nil =>
      rw [f0, if_neg (by simp), ris_f l ok a 43, hr, f0]
      simp only [Option.bind_some]
      rw [fin false false (.inl rfl), hr]
      rfl
    | cons t r1 =>
      have e1 : (l.map toTok).drop (a + 1) = r1 := by
        rw [← List.drop_drop, hr]
        rfl
      rw [fc]
      cases r1 with
      | nil =>
        have hst : startsR ((l.map toTok).drop (a + 1)) = false := by rw [e1]; rfl
        by_cases h2 : t = mk 45
        · rw [decide_eq_true h2, if_pos rfl, fin true true (.inr hst), hr]
          rfl
        · rw [decide_eq_false h2, if_neg (by simp), ris_f l ok a 43]
          simp only [Option.bind_some]
          rw [fin false _ (.inr hst), hr]
          rfl
      | cons u r =>
        simp only [loopQ]
        by_cases hs : startsT u = true
        · rw [if_pos hs]
          by_cases h2 : t = mk 45
          · have hn : ¬ t = mk 43 := by rw [h2]; decide
            rw [if_neg hn, if_pos h2, decide_eq_true h2, if_pos rfl]
            exact go true t u r hr hs
          · rw [decide_eq_false h2, if_neg (by simp), ris_f l ok a 43, hr, fc]
            simp only [Option.bind_some]
            by_cases h1 : t = mk 43
            · rw [if_pos h1, decide_eq_true h1]
              exact go false t u r hr hs
            · rw [if_neg h1, if_neg h2, decide_eq_false h1, fin false false (.inl rfl), hr]
        · rw [if_neg hs]
          have hst : startsR ((l.map toTok).drop (a + 1)) = false := by rw [e1]; simpa [startsR] using hs
          by_cases h2 : t = mk 45
          · rw [decide_eq_true h2, if_pos rfl, fin true true (.inr hst), hr]
          · rw [decide_eq_false h2, if_neg (by simp), ris_f l ok a 43]
            simp only [Option.bind_some]
            rw [fin false _ (.inr hst), hr]
theorem tail_drop (L : List Tok) (a : Nat) : (L.drop a).tail = L.drop (a + 1) := by
  rw [← List.drop_drop, List.drop_one]
theorem step_m (t : Tok) (b : Bool) (x : X) (p q j : Nat) : stepQ t b { x with m := j } p q = ({ (stepQ t b x p q).1 with m := j }, (stepQ t b x p q).2.1, (stepQ t b x p q).2.2) := by
  unfold stepQ
  by_cases h : t.k = 2
  · rw [if_pos h, if_pos h]
  · rw [if_neg h, if_neg h]
    cases b <;> rfl
theorem loop_m : ∀ (r : List Tok) (x : X) (p q j : Nat), loopQ r { x with m := j } p q = ((loopQ r x p q).1, { (loopQ r x p q).2.1 with m := j }, (loopQ r x p q).2.2.1, (loopQ r x p q).2.2.2)
  | [], x, p, q, j => rfl
  | [t], x, p, q, j => rfl
  | t :: u :: r, x, p, q, j => by
    simp only [loopQ]
    by_cases hs : startsT u = true
    · rw [if_pos hs, if_pos hs]
      by_cases h1 : t = mk 43
      · rw [if_pos h1, if_pos h1, step_m]
        exact loop_m r _ _ _ j
      · rw [if_neg h1, if_neg h1]
        by_cases h2 : t = mk 45
        · rw [if_pos h2, if_pos h2, step_m]
          exact loop_m r _ _ _ j
        · rw [if_neg h2, if_neg h2]
    · rw [if_neg hs, if_neg hs]
def withM (j : Nat) (v : List Tok × X) : List Tok × X := (v.1, { v.2 with m := j })
theorem sumQ_m (r : List Tok) (j : Nat) : sumQ r { x0 with m := j } = (sumQ r x0).map (withM j) := by
  unfold sumQ
  cases tailOf r with
  | nil => rfl
  | cons t r2 =>
    simp only
    by_cases hs : startsT t = true
    · rw [if_pos hs, if_pos hs, step_m t (first r 45) x0 0 0 j, loop_m]
      unfold endQ
      simp only
      split <;> rfl
    · rw [if_neg hs, if_neg hs]
      rfl
/-- What the document's sum answers: below 0 just where there is none. -/
def SumIs (len : Nat) (o : Option (List Tok × X)) (s : Sum) : Prop := match o with
  | none => s.2.2.2.2 = -1
  | some (r, y) => s = (⟨y.s.toArray⟩, ⟨y.l.toArray⟩, y.n, (y.m : Int), ((len - r.length : Nat) : Int))
theorem ans_is (len : Nat) (v : List Tok × X × Nat × Nat) : SumIs len (endQ v) (ansQ len v) := by
  unfold endQ ansQ
  by_cases c : v.2.2.1 > 1 ∨ v.2.2.2 > 1 ∨ v.2.2.2 > v.2.2.1
  · rw [if_pos c, if_pos c]
    rfl
  · rw [if_neg c, if_neg c]
    rfl
theorem sum_ref (l : List S41) (ok : okM l) (a : Nat) (ha : a ≤ l.length) (k : Nat) (hk : 1002000 ≤ k) : ∃ s, quoinref16_sum.f k l (a : Int) = some s ∧ SumIs l.length (sumQ ((l.map toTok).drop a) x0) s := by
  have hl := ok.len
  obtain ⟨k, rfl⟩ : ∃ K, k = K + 5 := ⟨k - 5, by omega⟩
  have sw : wrap64 ((a : Int) + 1) = ((a + 1 : Nat) : Int) := wup (by omega)
  have j3 : ∀ (a' : Nat) (b : Bool), a' ≤ l.length → tailOf ((l.map toTok).drop a) = (l.map toTok).drop a' → first ((l.map toTok).drop a) 45 = b →
      ∃ s, quoinref16_sum.j3 (k + 2) l (a' : Int) (0 : Int) 0 0 b (⟨#[]⟩ : ByteArray) (⟨#[]⟩ : ByteArray) 0 0 = some s ∧ SumIs l.length (sumQ ((l.map toTok).drop a) x0) s := by
    intro a' b ha' ht hb
    unfold sumQ
    rw [ht, hb]
    by_cases h : a' < l.length
    · by_cases hs : startsT (toTok l[a']) = true
      · have h3 := sum_j3 l ok a' 0 0 0 b x0 k (by omega) h (by omega) (by omega) (by omega) hs
        have hst := step_le (toTok l[a']) b x0 0 0
        have hlp := sum_loop l ok (l.length - (a' + 1)) (a' + 1) _ _ 1 k (stepQ (toTok l[a']) b x0 0 0).1 (by omega) (by omega) (by omega) (by omega) (by omega) hst.2.2.1 hst.2.2.2
        refine ⟨_, h3.trans hlp, ?_⟩
        rw [drop_cons l a' h]
        simp only
        rw [if_pos hs]
        exact ans_is _ _
      · refine ⟨((⟨#[]⟩ : ByteArray), (⟨#[]⟩ : ByteArray), 0, 0, -1), ?_, ?_⟩
        · rw [quoinref16_sum.j3, rterm_f l ok a' (k + 1) (by omega), drop_cons l a' h]
          simp only [Option.bind_some, startsR]
          rw [if_neg hs]
        · rw [drop_cons l a' h]
          simp only
          rw [if_neg hs]
          rfl
    · refine ⟨((⟨#[]⟩ : ByteArray), (⟨#[]⟩ : ByteArray), 0, 0, -1), ?_, ?_⟩
      · rw [quoinref16_sum.j3, rterm_f l ok a' (k + 1) (by omega), drop_none l a' h]
        simp only [Option.bind_some, startsR]
        rw [if_neg (by simp)]
      · rw [drop_none l a' h]
        rfl
  have sign : ∀ c : UInt8, first ((l.map toTok).drop a) c = true → a < l.length := by
    intro c h
    rcases Nat.lt_or_ge a l.length with g | g
    · exact g
    · rw [drop_none l a (by omega)] at h
      cases h
  unfold quoinref16_sum.f
  rw [quoinref16_sum.l0, if_pos (by omega), ris_f l ok a 45]
  simp only [Option.bind_some]
  cases h45 : first ((l.map toTok).drop a) 45 with
  | true =>
    rw [if_pos rfl, quoinref16_sum.j1, if_neg (by omega), quoinref16_sum.j2, if_neg (by simp), if_pos rfl, sw]
    exact j3 (a + 1) true (by have := sign 45 h45; omega) (by unfold tailOf; rw [h45, if_pos (by rfl), tail_drop]) h45
  | false =>
    rw [if_neg (by simp), ris_f l ok a 43]
    simp only [Option.bind_some]
    cases h43 : first ((l.map toTok).drop a) 43 with
    | true =>
      rw [quoinref16_sum.j1, if_neg (by omega), quoinref16_sum.j2, if_neg (by simp), if_pos rfl, sw]
      exact j3 (a + 1) false (by have := sign 43 h43; omega) (by unfold tailOf; rw [h45, h43, if_pos (by rfl), tail_drop]) h45
    | false =>
      rw [quoinref16_sum.j1, if_neg (by omega), quoinref16_sum.j2, if_neg (by simp), if_neg (by simp)]
      exact j3 a false ha (by unfold tailOf; rw [h45, h43, if_neg (by simp)]) h45
theorem mod_ref (s : ByteArray) : quoinref16_mod.f s = some ((modL s.data.toList : Nat) : Int) := by
  unfold quoinref16_mod.f modL
  rw [ByteArray.toList_eq]
  simp only [modName]
  split
  · rfl
  split
  · rfl
  split
  · rfl
  split <;> rfl
abbrev Ans := ByteArray × ByteArray × Int × Int × Int × Int
def ansP (v : X × Nat × Nat) : Ans := (⟨v.1.s.toArray⟩, ⟨v.1.l.toArray⟩, v.1.n, (v.1.m : Int), (v.2.1 : Int), (v.2.2 : Int))
def finP (len : Nat) (o : Option (List Tok × X)) : X × Nat × Nat := match o with | none => (x0, 0, 160) | some (r, y) => (y, len - r.length, 0)
theorem x0_s : (⟨x0.s.toArray⟩ : ByteArray) = ⟨#[]⟩ := rfl
/-- Behind the word that stands ahead. -/
theorem parse_j3 (l : List S41) (ok : okM l) (a m : Nat) (hm : m ≤ 4) (ha : a ≤ l.length) (k : Nat) (hk : 1002000 ≤ k) :
    quoinref16_Parse.j3 (k + 2) l (a : Int) (m : Int) = some (ansP (finP l.length (match sumR ((l.map toTok).drop a) { x0 with m := m } with
      | none => none
      | some (r, y) => if m = 0 then some (r, y) else (match r with | [] => none | v :: r4 => if v = mk 41 then some (r4, y) else none)))) := by
  have hl := ok.len
  obtain ⟨s, hs, hi⟩ := sum_ref l ok a ha (k + 1) (by omega)
  rw [quoinref16_Parse.j3, hs, ← sum_Q, sumQ_m]
  simp only [Option.bind_some]
  cases hq : sumQ ((l.map toTok).drop a) x0 with
  | none =>
    rw [hq] at hi
    have hi' : s.2.2.2.2 = -1 := hi
    rw [hi', if_pos (by omega), quoinref16_Parse.j4, if_pos rfl]
    rfl
  | some v =>
    obtain ⟨r, y⟩ := v
    rw [hq] at hi
    have hi' : s = (⟨y.s.toArray⟩, ⟨y.l.toArray⟩, y.n, (y.m : Int), ((l.length - r.length : Nat) : Int)) := hi
    subst hi'
    have hsuf : ∃ u, (l.map toTok).drop a = u ++ r := by
      have e := sum_Q ((l.map toTok).drop a) 0
      have e2 : sumR ((l.map toTok).drop a) { x0 with m := 0 } = some (r, y) := e.symm.trans hq
      obtain ⟨_, _, _, used, _, e3, _⟩ := sum_law (fine0 0) e2
      exact ⟨used, e3⟩
    have hrl : r.length ≤ l.length := by
      obtain ⟨u, hu⟩ := hsuf
      have := congrArg List.length hu
      rw [List.length_drop, List.length_map, List.length_append] at this
      omega
    have hdr : (l.map toTok).drop (l.length - r.length) = r := by
      obtain ⟨u, hu⟩ := hsuf
      have h1 := congrArg List.length hu
      rw [List.length_drop, List.length_map, List.length_append] at h1
      by_cases hz : a ≤ l.length - r.length
      · rw [show l.length - r.length = a + (l.length - r.length - a) by omega, ← List.drop_drop, hu, List.drop_append_of_le_length (by omega), List.drop_of_length_le (by omega), List.nil_append]
      · omega
    simp only [Option.map_some, withM]
    rw [if_neg (by omega)]
    by_cases h0 : m = 0
    · subst h0
      rw [if_neg (by omega), quoinref16_Parse.j4, if_neg (by simp), if_neg (by omega), if_pos rfl]
      rfl
    · rw [if_pos (by omega), ris_f l ok (l.length - r.length) 41, hdr, if_neg h0]
      simp only [Option.bind_some]
      cases r with
      | nil =>
        rw [quoinref16_Parse.j4, if_pos (by rfl)]
        rfl
      | cons v r4 =>
        by_cases hv : v = mk 41
        · rw [quoinref16_Parse.j4, if_neg (by simp [first, hv]), if_pos (by omega)]
          simp only
          rw [if_pos hv]
          have : wrap64 (((l.length - (v :: r4).length : Nat) : Int) + 1) = ((l.length - r4.length : Nat) : Int) := by
            rw [wup (by omega)]
            simp at hrl ⊢
            omega
          rw [this]
          rfl
        · rw [quoinref16_Parse.j4, if_pos (by simp [first, hv])]
          simp only
          rw [if_neg hv]
          rfl
theorem may_pos {x : S41} (h : mayL (toTok x) = true) (k : x.f0 = 1) : 0 < x.f1.size := may_size k h
theorem finP_len {l : List S41} {a : Nat} (o : Option (List Tok × X)) : finP (l.map toTok).length o = finP l.length o := by rw [List.length_map]
/-- Behind the look at the first word. -/
theorem parse_j1 (l : List S41) (ok : okM l) (a : Nat) (ha : a ≤ l.length) (k : Nat) (hk : 1002000 ≤ k) :
    quoinref16_Parse.j1 (k + 4) l (a : Int) false = some (ansP (finP l.length (parseR ((l.map toTok).drop a)))) := by
  have hl := ok.len
  have plain : ∀ r : List Tok, r = (l.map toTok).drop a → parseR r = sumR r x0 → quoinref16_Parse.j2 (k + 3) l (a : Int) 0 false = some (ansP (finP l.length (parseR r))) := by
    intro r hr hp
    rw [quoinref16_Parse.j2, if_neg (by simp)]
    have := parse_j3 l ok a 0 (by omega) ha k hk
    rw [show ((0 : Nat) : Int) = 0 from rfl] at this
    rw [this, hp, hr]
    congr 3
    rw [show ({ x0 with m := 0 } : X) = x0 from rfl]
    cases sumR ((l.map toTok).drop a) x0 with
    | none => rfl
    | some v => rfl
  rw [quoinref16_Parse.j1, if_neg (by simp)]
  by_cases h : a < l.length
  · have hx := ok.ok l[a] (List.getElem_mem h)
    have hm := ok.may l[a] (List.getElem_mem h)
    rw [if_pos (by omega), if_pos (by omega), rd_at l a h]
    by_cases c1 : l[a].f0 = 1
    · have hp := may_pos hm c1
      have k1 : (toTok l[a]).k = 1 := by simp only [toTok]; omega
      rw [if_pos c1, if_pos (by omega), show bt l[a].f1 0 = (l[a].f1[0].toNat : Int) from bt_lt l[a].f1 0 hp]
      have hh : (toTok l[a]).t.getD 0 0 = l[a].f1[0] := head_at l[a].f1 hp
      by_cases c37 : l[a].f1[0] = 37
      · have e37 : ((l[a].f1[0].toNat : Int) == 37) = true := by rw [c37]; rfl
        have hpm : (toTok l[a]).k = 1 ∧ (toTok l[a]).t.getD 0 0 = 37 := ⟨k1, hh.trans c37⟩
        rw [e37, quoinref16_Parse.j2, if_pos rfl, if_pos (by omega), if_pos (by omega), rd_at l a h, mod_ref, drop_cons l a h]
        simp only [Option.bind_some, parseR]
        rw [if_pos hpm]
        have hmt : (toTok l[a]).t = l[a].f1.data.toList := rfl
        rw [hmt]
        have h4 := mod_le l[a].f1.data.toList
        by_cases m0 : modL l[a].f1.data.toList = 0
        · rw [if_pos m0, if_pos (by omega)]
          rfl
        · rw [if_neg m0, if_neg (by omega), show wrap64 ((a : Int) + 1) = ((a + 1 : Nat) : Int) from wup (by omega), ris_f l ok (a + 1) 40]
          simp only [Option.bind_some]
          cases hr : (l.map toTok).drop (a + 1) with
          | nil => rfl
          | cons u r2 =>
            have h1 : a + 1 < l.length := by
              have := congrArg List.length hr
              rw [List.length_drop, List.length_map] at this
              simp at this
              omega
            have e2 : (l.map toTok).drop (a + 2) = r2 := by
              have := tail_drop (l.map toTok) (a + 1)
              rw [hr] at this
              exact this.symm
            by_cases hu : u = mk 40
            · rw [show first (u :: r2) 40 = decide (u = mk 40) from rfl, decide_eq_true hu, if_pos rfl]
              simp only
              rw [if_pos hu]
              have w2 : wrap64 ((a : Int) + 2) = ((a + 2 : Nat) : Int) := by unfold wrap64; omega
              have := parse_j3 l ok (a + 2) (modL l[a].f1.data.toList) h4 (by omega) (k + 1 - 2 + 1) (by omega)
              rw [w2, show k + 2 = (k + 1 - 2 + 1) + 2 by omega, this, e2]
              congr 3
              cases sumR r2 { x0 with m := modL l[a].f1.data.toList } with
              | none => rfl
              | some v =>
                obtain ⟨r, y⟩ := v
                simp only
                rw [if_neg m0]
                cases r <;> rfl
            · rw [show first (u :: r2) 40 = decide (u = mk 40) from rfl, decide_eq_false hu, if_neg (by simp)]
              simp only
              rw [if_neg hu]
              rfl
      · have e37 : ((l[a].f1[0].toNat : Int) == 37) = false := by
          rw [beq_eq_false_iff_ne]
          intro e
          have : ((l[a].f1[0].toNat : Int) != 37) = !(l[a].f1[0] == 37) := pct _
          rw [e] at this
          simp at this
          exact c37 this
        rw [e37, drop_cons l a h]
        exact plain _ (drop_cons l a h).symm (parse_plain (fun g => c37 (hh.symm.trans g.2)))
    · rw [if_neg c1, drop_cons l a h]
      exact plain _ (drop_cons l a h).symm (parse_plain (fun g => c1 (by have := g.1; simp only [toTok] at this; omega)))
  · rw [if_neg (by omega), drop_none l a h]
    exact plain _ (drop_none l a h).symm rfl
theorem parse_l0 (l : List S41) (hl : l.length ≤ 200) (ok : ∀ x ∈ l, 0 ≤ x.f0 ∧ x.f1.size ≤ 1000000 ∧ numOk (toTok x)) (a : Int) : ∀ (d i k : Nat), l.length = i + d → 1002100 + d ≤ k → (∀ x ∈ l.take i, mayL (toTok x) = true) →
    quoinref16_Parse.l0 k l a (i : Int) = some (ansP (parseL (l.map toTok) a))
  | d, i, 0, _, hk, _ => by omega
  | 0, i, k + 1, hd, hk, hm => by
    have hi : i = l.length := by omega
    subst hi
    rw [List.take_length] at hm
    have hall : (l.map toTok).all mayL = true := by
      rw [List.all_map, List.all_eq_true]
      exact fun t ht => hm t ht
    have hP : parseL (l.map toTok) a = if a < 0 ∨ (l.length : Int) < a then (x0, 0, 2) else finP l.length (parseR ((l.map toTok).drop a.toNat)) := by
      unfold parseL
      rw [if_neg (by rw [hall]; simp), List.length_map]
      rfl
    rw [hP, quoinref16_Parse.l0, if_neg (by omega)]
    obtain ⟨k, rfl⟩ : ∃ K, k = K + 4 := ⟨k - 4, by omega⟩
    by_cases c0 : a < 0
    · rw [if_pos c0, if_pos (.inl c0), quoinref16_Parse.j1, if_pos rfl]
      rfl
    · rw [if_neg c0]
      by_cases c1 : a > (l.length : Int)
      · rw [decide_eq_true c1, if_pos (.inr c1), quoinref16_Parse.j1, if_pos rfl]
        rfl
      · rw [decide_eq_false c1, if_neg (by omega)]
        obtain ⟨n, rfl⟩ := Int.eq_ofNat_of_zero_le (by omega : 0 ≤ a)
        exact parse_j1 l ⟨hl, ok, hm⟩ n (by omega) k (by omega)
  | d + 1, i, k + 1, hd, hk, hm => by
    have hlt : i < l.length := by omega
    have hx := ok l[i] (List.getElem_mem hlt)
    rw [quoinref16_Parse.l0, if_pos (by omega), if_pos (by omega), rd_at l i hlt, rcheck_f l[i] hx.1 hx.2.1 hx.2.2 k (by have := hx.2.1; omega)]
    simp only [Option.bind_some]
    cases hmi : mayL (toTok l[i]) with
    | false =>
      have hall := not_all hlt (by rw [rd_at l i hlt]; exact hmi)
      unfold parseL
      rw [if_pos hall]
      rfl
    | true =>
      rw [if_pos rfl, if_pos rfl, show wrap64 ((i : Int) + 1) = ((i + 1 : Nat) : Int) from wup (by omega)]
      refine parse_l0 l hl ok a d (i + 1) k (by omega) (by omega) ?_
      intro t ht
      rw [List.take_succ_eq_append_getElem hlt, List.mem_append] at ht
      rcases ht with ht | ht
      · exact hm t ht
      · simp at ht; rw [ht]; exact hmi
theorem parse_ref (l : List S41) (hl : l.length ≤ 200) (ok : ∀ x ∈ l, 0 ≤ x.f0 ∧ x.f1.size ≤ 1000000 ∧ numOk (toTok x)) (a : Int) (k : Nat) (hk : 1002300 ≤ k) : quoinref16_Parse.f k l a = some (ansP (parseL (l.map toTok) a)) := by
  unfold quoinref16_Parse.f
  exact parse_l0 l hl ok a l.length 0 k (by omega) (by omega) (by simp)
end Go.Proofs.YtgihgmniijhfoaaDoor.ZR
