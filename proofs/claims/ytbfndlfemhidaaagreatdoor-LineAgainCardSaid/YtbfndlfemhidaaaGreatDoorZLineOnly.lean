/- Texts of this seat in one (ZLineOnly), what nothing speaks of left out: by pack.py, a program of this session. -/
import Derived.Test.YtbfndlfemhidaaaGreatDoorZLineCore
/- What is read may be, and is read again as it is: plain Lean on lists. -/
namespace Go.Proofs.YtbfndlfemhidaaaGreatDoor.LnW
open Go.RowKit Go.Proofs.YtbfndlfemhidaaaGreatDoor.LexP Go.Proofs.YtbfndlfemhidaaaGreatDoor.P Go.Proofs.YtbfndlfemhidaaaGreatDoor.P.ZT Go.Proofs.YtbfndlfemhidaaaGreatDoor.P.LD Go.Proofs.YtbfndlfemhidaaaGreatDoorW.PrintWords Go.Proofs.YtbfndlfemhidaaaGreatDoorW.PrintLast Go.Proofs.YtbfndlfemhidaaaGreatDoorW.PrintMore Go.Proofs.YtbfndlfemhidaaaGreatDoor.Lex Go.Proofs.YtbfndlfemhidaaaGreatDoor.Ex Go.Proofs.YtbfndlfemhidaaaGreatDoor.Li
set_option linter.unusedVariables false
set_option linter.unusedSimpArgs false
theorem labs_len : ∀ (l : List (List UInt8)) (p : List Tok), labsT l = some p → p.length = 2 * l.length
 | [], p, h => by cases h; rfl
 | s :: r, p, h => by
  rw [labsT] at h
  cases hl : labelL s with
  | none => rw [hl] at h; cases h
  | some t =>
   rw [hl] at h
   cases hr : labsT r with
   | none => rw [hr] at h; cases h
   | some q =>
    rw [hr] at h
    cases h
    have := labs_len r q hr
    simp only [List.length_cons]
    omega
theorem told_k {x : A} {t : List Tok} (h : toldT x = some t) : ∃ y r, t = y :: r ∧ y.k ≠ 4 := by
 unfold toldT at h
 split at h
 ·
  split at h
  ·
   cases h; exact ⟨_, _, rfl, by simp⟩
  ·
   cases h
 split at h
 ·
  split at h
  ·
   cases h; exact ⟨_, _, rfl, by simp [calT]⟩
  ·
   cases h
 split at h
 ·
  split at h
  ·
   rename_i hc
   cases h
   obtain ⟨t, r, e, _, h4, _⟩ := toks_head hc.2
   exact ⟨t, r, e, h4⟩
  ·
   cases h
 split at h
 ·
  split at h
  ·
   rename_i hc
   cases h
   obtain ⟨t, r, e, _, h4, _⟩ := toks_head hc.2.1
   exact ⟨t, _, by rw [e]; rfl, h4⟩
  ·
   cases h
 ·
  cases h
theorem labs_map (L : List ByteArray) : (L.map (·.data.toList)).map (fun s => (⟨s.toArray⟩ : ByteArray)) = L := by
 rw [List.map_map]
 conv => rhs; rw [← List.map_id L]
 exact List.map_congr_left fun x _ => arr_back x
theorem read_back {L : List ByteArray} {w : ByteArray} {l : List A} (ok : okL L w l) {t : List Tok} (h : lineT L w l = some t) (hm : t.all mayL = true) : readB (t.map toS) = ((L, w, l), 0) := by
 obtain ⟨p, q, hp, hb, hq, rfl⟩ := line_parts h
 have hpl := labs_len _ _ hp
 rw [List.length_map] at hpl
 have hu : ¬ (wordT w ++ q.tail)[1]? = some (mk 58) := by
  unfold wordT
  by_cases cw : w.data.toList = []
  ·
   have hl : l = [] := by
    unfold wordB at hb
    rw [if_pos cw] at hb
    simp only [Bool.and_eq_true, decide_eq_true_eq] at hb
    exact List.length_eq_zero_iff.1 hb.2
   subst hl
   cases hq
   rw [if_pos cw]
   simp
  ·
   rw [if_neg cw]
   cases l with
   | nil => cases hq; simp
   | cons x r =>
    rw [argsT] at hq
    cases ht : toldT x with
    | none => rw [ht] at hq; cases hq
    | some t =>
     rw [ht] at hq
     cases hr : argsT r with
     | none => rw [hr] at hq; cases hq
     | some q' =>
      rw [hr] at hq
      cases hq
      obtain ⟨y, r', rfl, hy⟩ := told_k ht
      intro e
      have e : some y = some (mk 58) := e
      injection e with e
      rw [e] at hy
      exact hy rfl
 have hl := labels_back (L.map (·.data.toList)) p hp (fun s hs => by
  obtain ⟨b, hb, rfl⟩ := List.mem_map.1 hs
  have := ok.s b hb
  rw [size_data]; omega) [] (wordT w ++ q.tail) [] ((p ++ wordT w ++ q.tail).length + 1) (by simp only [List.length_map, List.length_append]; omega) hu
 rw [labs_map, List.nil_append, List.nil_append, List.append_assoc, show ([] : List Tok).length = 0 from rfl] at hl
 unfold readB
 rw [List.length_map, List.append_assoc] at *
 rw [hl]
 simp only
 by_cases cw : w.data.toList = []
 ·
  have hl : l = [] := by
   unfold wordB at hb
   rw [if_pos cw] at hb
   simp only [Bool.and_eq_true, decide_eq_true_eq] at hb
   exact List.length_eq_zero_iff.1 hb.2
  subst hl
  cases hq
  have e : wordT w = [] := if_pos cw
  have ew : w = ⟨#[]⟩ := by
   have := arr_back w
   rw [cw] at this
   exact this.symm
  rw [e, ew]
  simp
 ·
  have e : wordT w = [⟨1, w.data.toList, 0⟩] := if_neg cw
  have hpw : plainL w.data.toList = true := by
   unfold wordB at hb
   rw [if_neg cw] at hb
   simp only [Bool.and_eq_true, decide_eq_true_eq] at hb
   exact hb.2
  have h8 : l.length ≤ 8 := by
   unfold wordB at hb
   simp only [Bool.and_eq_true, decide_eq_true_eq] at hb
   exact hb.1
  rw [e] at hm ⊢
  rw [List.getElem?_map, List.cons_append, at_pre, Option.map_some]
  simp only
  rw [if_pos (plainB_of _ hpw)]
  have hall := args_back (p ++ (⟨1, w.data.toList, 0⟩ : Tok) :: ([] ++ q.tail)) (by rw [List.cons_append] at hm; exact hm) l q hq ok.a (p ++ [(⟨1, w.data.toList, 0⟩ : Tok)]) [] ((p ++ (⟨1, w.data.toList, 0⟩ : Tok) :: ([] ++ q.tail)).length + 1) (by rw [if_pos rfl]; simp) (by simpa using h8) (by
   have : l.length ≤ q.length := by
    clear hb hu hl hm h8 e hpw ok h
    revert q
    induction l with
    | nil => intro q hq; exact Nat.zero_le _
    | cons x r ih =>
     intro q hq
     rw [argsT] at hq
     cases ht : toldT x with
     | none => rw [ht] at hq; cases hq
     | some t =>
      rw [ht] at hq
      cases hr : argsT r with
      | none => rw [hr] at hq; cases hq
      | some q' =>
       rw [hr] at hq
       cases hq
       have := ih q' hr
       simp only [List.length_cons, List.length_append]
       omega
   simp only [List.length_append, List.length_cons, List.length_tail, List.nil_append]
   omega)
  rw [show (p ++ [(⟨1, w.data.toList, 0⟩ : Tok)]).length = p.length + 1 by simp] at hall
  simp only [List.nil_append] at hall ⊢
  rw [hall]
  simp [toS]
theorem nil_t : ((⟨#[]⟩ : ByteArray).toList == ([] : List UInt8)) = true := by rw [ByteArray.toList_eq]; rfl
theorem nil_z : nilE z38 = true := by
 unfold nilE
 rw [show (z38).f0 = (⟨#[]⟩ : ByteArray) from rfl, show (z38).f1 = (⟨#[]⟩ : ByteArray) from rfl, nil_t]
 rfl
theorem may_name {s : List UInt8} (h : nameL s = true) : mayL ⟨1, s, 0⟩ = true := by
 unfold mayL textL
 rw [if_pos rfl]
 simp [h]
theorem may_num (n : Int) : mayL ⟨2, [], n⟩ = true := by
 simp only [mayL, textL]
 rw [if_neg (by decide), if_neg (by decide), if_neg (by decide), if_pos trivial]
 split <;> rfl
theorem label_may {s : List UInt8} {t : Tok} (h : labelL s = some t) : mayL t = true := by
 unfold labelL at h
 split at h
 ·
  rename_i hp
  cases h
  unfold plainL at hp
  rw [Bool.and_eq_true] at hp
  exact may_name hp.1
 split at h
 ·
  cases h
  exact may_num _
 ·
  cases h
def goodS (s : ByteArray) : Prop := s.size ≤ 100000 ∧ ∃ t, labelL s.data.toList = some t
theorem plain_back {t : Tok} (hm : mayL t = true) (h : plainB (toS t) = true) : t.k = 1 ∧ plainL t.t = true := by
 unfold plainB toS at h
 simp only [Bool.and_eq_true, Bool.not_eq_true', beq_eq_false_iff_ne, ne_eq, beq_iff_eq] at h
 have hk : t.k = 1 := by omega
 refine ⟨hk, ?_⟩
 unfold mayL textL at hm
 rw [if_pos hk] at hm
 simp only [Bool.and_eq_true, Bool.or_eq_true] at hm
 unfold plainL
 rw [Bool.and_eq_true]
 refine ⟨?_, by simpa using h.2.1⟩
 rcases hm.2 with hn | hl
 ·
  exact hn
 ·
  exfalso
  obtain ⟨h1, _⟩ := local_facts hl
  cases ht : t.t with
  | nil => rw [ht] at h1; simp [many] at h1
  | cons c r =>
   rw [ht] at h1
   unfold many at h1
   have hd : digitC c = true := by
    by_cases hd : digitC c = true
    ·
     exact hd
    ·
     rw [if_neg hd] at h1; omega
   have h2 := h.2.2
   rw [ht] at h2
   simp only [List.getD_cons_zero] at h2
   rw [hd] at h2
   cases h2
theorem count_some {m : Nat} (h : m < 1000000000) : ∃ t, labelL (decL m) = some t := by
  unfold labelL
  by_cases hp : plainL (decL m) = true
  · rw [if_pos hp]; exact ⟨_, rfl⟩
  · rw [if_neg hp, if_pos (LL.count_back h rfl)]; exact ⟨_, rfl⟩
theorem labels_only (ts : List Tok) (hm : ∀ t ∈ ts, mayL t = true) : ∀ (d a : Nat) (out : List ByteArray), (∀ s ∈ out, goodS s) → (∀ s ∈ (labelsB (ts.map toS) d a out).1, goodS s) ∧ (labelsB (ts.map toS) d a out).1.length ≤ out.length + d
 | 0, a, out, h => ⟨h, Nat.le_refl _⟩
 | d + 1, a, out, h => by
  rw [labelsB]
  split
  ·
   rw [List.getElem?_map]
   cases ht : ts[a]? with
   | none => exact ⟨h, by simp⟩
   | some t =>
    have hmt := hm t (List.mem_of_getElem? ht)
    simp only [Option.map_some]
    have step : ∀ s, goodS s → (∀ s' ∈ (labelsB (ts.map toS) d (a + 2) (out ++ [s])).1, goodS s') ∧ (labelsB (ts.map toS) d (a + 2) (out ++ [s])).1.length ≤ out.length + (d + 1) := fun s hs => by
     have := labels_only ts hm d (a + 2) (out ++ [s]) (fun x hx => by
      rw [List.mem_append, List.mem_singleton] at hx
      rcases hx with hx | rfl
      ·
       exact h x hx
      ·
       exact hs)
     refine ⟨this.1, ?_⟩
     have := this.2
     simp only [List.length_append, List.length_cons, List.length_nil] at this
     omega
    split
    ·
     rename_i hp
     obtain ⟨hk, hp⟩ := plain_back hmt hp
     refine step _ ⟨?_, ?_⟩
     ·
      have := (may_len hmt).1
      show (⟨t.t.toArray⟩ : ByteArray).size ≤ _
      rw [size_of]; omega
     ·
      show ∃ x, labelL t.t = some x
      unfold labelL
      rw [if_pos hp]
      exact ⟨_, rfl⟩
    split
    ·
     rename_i hc
     unfold countB toS at hc
     simp only [Bool.and_eq_true, decide_eq_true_eq] at hc
     refine step _ ⟨?_, ?_⟩
     ·
      rw [size_of]
      have := dec_len 9 t.n.toNat (by decide) (by have := hc.2; show t.n.toNat < 1000000000; omega)
      show (decL t.n.toNat).length ≤ _
      omega
     ·
      exact count_some (m := t.n.toNat) (by have := hc.2; omega)
    ·
     exact ⟨h, by simp⟩
  ·
   exact ⟨h, by simp⟩
def goodA (x : A) : Prop := okA x ∧ ∃ t, toldT x = some t ∧ ∀ y ∈ t, mayL y = true
theorem reg_lt {s : List UInt8} {n : Nat} (h : regL s = some n) : n < 32 := by
 unfold regL at h
 have hx : ∀ (d m : Nat), xReg s d m = some n → n < m + d := by
  intro d
  induction d with
  | zero => intro m h; cases h
  | succ d ih =>
   intro m h
   rw [xReg] at h
   split at h
   ·
    cases h; omega
   ·
    have := ih _ h; omega
 cases hf : findL s regNames 0 with
 | some m =>
  rw [hf] at h
  cases h
  have := LR.find_le s regNames 0 n hf
  have e : regNames.length = 32 := rfl
  omega
 | none =>
  rw [hf] at h
  simp only at h
  split at h
  ·
   cases h; omega
  ·
   have := hx 32 0 h; omega
theorem regB_lt {n : Nat} (h : n < 32) : regB (n : Int) = true := by
 unfold regB
 simp only [Bool.and_eq_true, decide_eq_true_eq]
 omega
theorem cal_may {n : Int} (h : regB n = true) : mayL (calT n) = true := may_name (cal_reg h).2.1
theorem reg_at_lt {ts : List Tok} {i n : Nat} (h : regAt (ts.map toS) i = some n) : n < 32 := by
 rw [reg_at] at h
 cases ht : ts[i]? with
 | none => rw [ht] at h; cases h
 | some t =>
  rw [ht] at h
  simp only at h
  split at h
  ·
   exact reg_lt h
  ·
   cases h
theorem by_lt32 {ts : List Tok} {i n : Nat} (h : byAt (ts.map toS) i = some n) : n < 32 := by
 unfold byAt at h
 cases hr : regAt (ts.map toS) (i + 1) with
 | none => rw [hr] at h; cases h
 | some m =>
  rw [hr] at h
  simp only at h
  split at h
  ·
   cases h; exact reg_at_lt hr
  ·
   cases h
theorem x_to (y : X) : xOf (toE y) = y := by
 obtain ⟨a, b, c, d⟩ := y
 unfold xOf toE
 simp
theorem okE_to {y : X} (hc : checkL y = true) (hn : numX y) : okE (toE y) := by
  obtain ⟨h1, h2, h3⟩ := ZU.check_len hc
  refine ⟨?_, ?_, hn, ?_⟩
  · show (⟨y.s.toArray⟩ : ByteArray).size ≤ _; rw [size_of]; omega
  · show (⟨y.l.toArray⟩ : ByteArray).size ≤ _; rw [size_of]; omega
  · show (0 : Int) ≤ (y.m : Int) ∧ (y.m : Int) ≤ 255; omega
theorem good_sum {y : X} (hs : sumB y = true) (hn : numX y) : goodA ⟨2, 0, toE y, ⟨#[]⟩⟩ := by
 have hc := (sum_check hs).1
 refine ⟨⟨by show (-9223372036854775808 : Int) ≤ 0 ∧ (0 : Int) < _; omega, okE_to hc hn, by show (⟨#[]⟩ : ByteArray).size ≤ _; decide⟩, toksX y, ?_, fun t ht => (toks_may hc hn t ht).1⟩
 unfold toldT
 simp only
 rw [if_neg (by omega), if_neg (by omega), if_pos trivial, if_pos ⟨by rw [nil_t]; rfl, by rw [x_to]; exact hs⟩, x_to]
theorem good_mem {ts : List Tok} {i a' : Nat} {e : E} {x : A} (he : okE e) (hs : sumB (xOf e) = true) (h : memB (ts.map toS) i e = .inl (x, a')) : goodA x := by
 have hc := (sum_check hs).1
 unfold memB at h
 cases hb : byAt (ts.map toS) i with
 | none => rw [hb] at h; cases h
 | some n =>
  rw [hb] at h
  cases h
  have hn := by_lt32 hb
  have hr := regB_lt hn
  refine ⟨⟨by show (-9223372036854775808 : Int) ≤ (n : Int) ∧ (n : Int) < _; omega, he, by show (⟨#[]⟩ : ByteArray).size ≤ _; decide⟩, toksX (xOf e) ++ [mk 40, calT n, mk 41], ?_, fun t ht => ?_⟩
  ·
   unfold toldT
   simp only
   rw [if_neg (by omega), if_neg (by omega), if_neg (by omega), if_pos trivial, if_pos ⟨nil_t, hs, hr⟩]
  ·
   rw [List.mem_append] at ht
   rcases ht with ht | ht
   ·
    exact (toks_may hc (xnum he) t ht).1
   ·
    simp only [List.mem_cons, List.not_mem_nil, or_false] at ht
    rcases ht with rfl | rfl | rfl
    ·
     decide
    ·
     exact cal_may hr
    ·
     decide
theorem arg_only {ts : List Tok} (hm : ∀ t ∈ ts, mayL t = true) {a a' : Nat} {x : A} (h : argB (ts.map toS) a = .inl (x, a')) : goodA x := by
 have ze : okE z38 := ⟨by decide, by decide, by decide, by decide⟩
 have zs : sumB (xOf z38) = true := by decide +kernel
 have rest : restB (ts.map toS) a = .inl (x, a') → goodA x := by
  intro h
  unfold restB at h
  cases hr : regAt (ts.map toS) a with
  | some n =>
   rw [hr] at h
   cases h
   have hn := reg_at_lt hr
   have hb := regB_lt hn
   refine ⟨⟨by show (-9223372036854775808 : Int) ≤ (n : Int) ∧ (n : Int) < _; omega, ze, by show (⟨#[]⟩ : ByteArray).size ≤ _; decide⟩, [calT n], ?_, fun t ht => ?_⟩
   ·
    unfold toldT
    simp only
    rw [if_neg (by omega), if_pos trivial, if_pos ⟨by rw [nil_z, nil_t]; rfl, hb⟩]
   ·
    rw [List.mem_singleton] at ht
    rw [ht]
    exact cal_may hb
  | none =>
   rw [hr] at h
   simp only at h
   split at h
   ·
    exact good_mem ze zs h
   ·
    unfold exprB at h
    rw [map_on] at h
    split at h
    ·
     cases h
    split at h
    ·
     cases h
    ·
     rename_i h0 hreg
     have h0' : (parseL ts (a : Int)).2.2 = 0 := by simpa using h0
     obtain ⟨_, _, _, hc, hn, _⟩ := parse_only (y := (parseL ts (a : Int)).1) (n := (parseL ts (a : Int)).2.1) (Prod.ext rfl (Prod.ext rfl h0'))
     have hs : sumB (parseL ts (a : Int)).1 = true := by
      unfold sumB
      rw [hc, Bool.true_and, Bool.not_eq_true', Bool.and_eq_false_iff]
      by_cases hm : (parseL ts (a : Int)).1.m = 0
      ·
       right
       have : ¬ (regL (parseL ts (a : Int)).1.s).isSome = true := fun h => hreg ⟨hm, h⟩
       simpa using this
      ·
       left
       exact decide_eq_false hm
     split at h
     ·
      exact good_mem (okE_to hc hn) (by rw [x_to]; exact hs) h
     ·
      cases h
      exact good_sum hs hn
 unfold argB at h
 rw [List.getElem?_map] at h
 cases ht : ts[a]? with
 | none => rw [ht] at h; exact rest h
 | some t =>
  rw [ht] at h
  simp only [Option.map_some] at h
  split at h
  ·
   rename_i h3
   cases h
   have hk : t.k = 3 := by
    have : (t.k : Int) = 3 := h3
    omega
   have hmt := hm t (List.mem_of_getElem? ht)
   have hml := (may_len hmt).1
   have hn0 : t.n = 0 := by
    unfold mayL textL at hmt
    rw [if_neg (by omega), if_neg (by omega), if_pos hk] at hmt
    split at hmt
    ·
     cases hmt
    ·
     simp only [Bool.and_eq_true, decide_eq_true_eq] at hmt
     exact hmt.1
   have hm3 : mayL ⟨3, t.t, 0⟩ = true := by
    rw [← hk, ← hn0]
    exact hmt
   refine ⟨⟨by show (-9223372036854775808 : Int) ≤ 0 ∧ (0 : Int) < _; omega, ze, by show (⟨t.t.toArray⟩ : ByteArray).size ≤ _; rw [size_of]; omega⟩, [⟨3, t.t, 0⟩], ?_, fun y hy => ?_⟩
   ·
    unfold toldT
    simp only
    rw [if_pos trivial, if_pos ⟨by rw [nil_z]; rfl, hm3⟩]
    rfl
   ·
    rw [List.mem_singleton] at hy
    rw [hy]
    exact hm3
  ·
   exact rest h
theorem args_only {ts : List Tok} (hm : ∀ t ∈ ts, mayL t = true) : ∀ (d a : Nat) (out out' : List A), (∀ x ∈ out, goodA x) → out.length ≤ 8 → argsB (ts.map toS) d a out = .inl out' → (∀ x ∈ out', goodA x) ∧ out'.length ≤ 8
 | 0, a, out, out', h, h8, e => by rw [argsB] at e; cases e; exact ⟨h, h8⟩
 | d + 1, a, out, out', h, h8, e => by
  rw [argsB] at e
  split at e
  ·
   cases e; exact ⟨h, h8⟩
  split at e
  ·
   cases e
  split at e
  ·
   cases e
  ·
   rename_i x a' ha
   split at e
   ·
    cases e
   ·
    refine args_only hm d a' (out ++ [x]) out' (fun y hy => ?_) (by simp only [List.length_append, List.length_cons, List.length_nil]; omega) e
    rw [List.mem_append, List.mem_singleton] at hy
    rcases hy with hy | rfl
    ·
     exact h y hy
    ·
     exact arg_only hm ha
theorem labs_good : ∀ (L : List ByteArray), (∀ s ∈ L, goodS s) → ∃ p, labsT (L.map (·.data.toList)) = some p ∧ ∀ y ∈ p, mayL y = true
 | [], _ => ⟨[], rfl, fun y h => by cases h⟩
 | s :: r, h => by
  obtain ⟨_, t, ht⟩ := h s (by simp)
  obtain ⟨p, hp, hm⟩ := labs_good r (fun x hx => h x (by simp [hx]))
  refine ⟨t :: mk 58 :: p, by rw [List.map_cons, labsT, ht]; simp only; rw [hp]; rfl, fun y hy => ?_⟩
  simp only [List.mem_cons] at hy
  rcases hy with rfl | rfl | hy
  ·
   exact label_may ht
  ·
   decide
  ·
   exact hm y hy
theorem args_good : ∀ (l : List A), (∀ x ∈ l, goodA x) → ∃ q, argsT l = some q ∧ ∀ y ∈ q, mayL y = true
 | [], _ => ⟨[], rfl, fun y h => by cases h⟩
 | x :: r, h => by
  obtain ⟨_, t, ht, hmt⟩ := h x (by simp)
  obtain ⟨q, hq, hm⟩ := args_good r (fun x hx => h x (by simp [hx]))
  refine ⟨mk 44 :: (t ++ q), by rw [argsT, ht]; simp only; rw [hq]; rfl, fun y hy => ?_⟩
  simp only [List.mem_cons, List.mem_append] at hy
  rcases hy with rfl | hy | hy
  ·
   decide
  ·
   exact hmt y hy
  ·
   exact hm y hy
theorem read_only {ts : List Tok} (hm : ∀ t ∈ ts, mayL t = true) (hl : ts.length ≤ 64) {L : List ByteArray} {w : ByteArray} {l : List A} (h : readB (ts.map toS) = ((L, w, l), 0)) :
  okL L w l ∧ ∃ t, lineT L w l = some t ∧ t.all mayL = true := by
 unfold readB at h
 rw [List.length_map] at h
 obtain ⟨hg, hn⟩ := labels_only ts hm (ts.length + 1) 0 [] (fun s h => by cases h)
 rw [List.length_nil] at hn
 obtain ⟨labs, ae, e⟩ : ∃ labs ae, labelsB (ts.map toS) (ts.length + 1) 0 [] = (labs, ae) := ⟨_, _, rfl⟩
 rw [e] at h hg hn
 simp only at h hg hn
 have fin : ∀ (hs : w.size ≤ 100000), (∀ x ∈ l, goodA x) → labs = L → wordB w l.length = true → (∀ y ∈ wordT w, mayL y = true) → okL L w l ∧ ∃ t, lineT L w l = some t ∧ t.all mayL = true := by
  intro hs ha e hb hw
  subst e
  obtain ⟨p, hp, hpm⟩ := labs_good labs hg
  obtain ⟨q, hq, hqm⟩ := args_good l ha
  refine ⟨⟨by omega, fun s h => (hg s h).1, hs, fun x h => (ha x h).1⟩, p ++ wordT w ++ q.tail, ?_, ?_⟩
  ·
   unfold lineT
   rw [hp]
   simp only
   rw [if_pos hb, hq]
   rfl
  ·
   rw [List.all_eq_true]
   intro y hy
   rw [List.mem_append, List.mem_append] at hy
   rcases hy with (hy | hy) | hy
   ·
    exact hpm y hy
   ·
    exact hw y hy
   ·
    exact hqm y (List.mem_of_mem_tail hy)
 rw [List.getElem?_map] at h
 cases ht : ts[ae]? with
 | none =>
  rw [ht] at h
  cases h
  exact fin (by decide) (fun x h => by cases h) rfl (by decide) (fun y h => by
   have : wordT ⟨#[]⟩ = [] := rfl
   rw [this] at h
   cases h)
 | some t =>
  rw [ht] at h
  simp only [Option.map_some] at h
  have hmt := hm t (List.mem_of_getElem? ht)
  split at h
  ·
   rename_i hp
   obtain ⟨hk, hpl⟩ := plain_back hmt hp
   cases ha : argsB (ts.map toS) (ts.length + 1) (ae + 1) [] with
   | inr er =>
    rw [ha] at h
    have := args_er _ _ _ _ ha
    simp only [Prod.mk.injEq] at h
    exact absurd h.2 this
   | inl out =>
    rw [ha] at h
    cases h
    obtain ⟨h1, h2⟩ := args_only hm _ _ [] l (fun x h => by cases h) (by simp) ha
    have hne : (toS t).f1.data.toList ≠ [] := by
     show t.t ≠ []
     exact (may_len hmt).2 hk
    have hmw : mayL ⟨1, t.t, 0⟩ = true := by
     unfold plainL at hpl
     rw [Bool.and_eq_true] at hpl
     exact may_name hpl.1
    refine fin ?_ h1 rfl ?_ ?_
    ·
     show (⟨t.t.toArray⟩ : ByteArray).size ≤ _
     have := (may_len hmt).1
     rw [size_of]; omega
    ·
     unfold wordB
     rw [decide_eq_true h2, if_neg hne]
     exact hpl
    ·
     unfold wordT
     rw [if_neg hne]
     intro y hy
     rw [List.mem_singleton] at hy
     rw [hy]
     exact hmw
  ·
   simp at h
end Go.Proofs.YtbfndlfemhidaaaGreatDoor.LnW
